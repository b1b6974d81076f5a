/- What is proved here: pause.Bit: the table of bits. -/
import Derived.Test.YtgnnnjabgoadaaaStore
namespace Go.Proofs.Ytgnnnjabgoadaaa
open Go.RowKit

def bitTab : List Int := [0, 0, 0, 0, 0, 128, 1, 1, 2, 2, 2, 2, 4, 4, 16, 8, 8, 8, 8, 8, 8, 16, 32, 64, 64, 64, 64, 64, 64]
def bitOf (i : Int) : Int := if 0 ≤ i ∧ i < 29 then bitTab.getD i.toNat 0 else 0
def bitCells : Array Value := (bitTab.map fun n => Value.int .i64 n).toArray
def bitParts : Array (Nat × Value) := #[(6, .int .i64 1), (7, .int .i64 1), (8, .int .i64 2), (9, .int .i64 2), (10, .int .i64 2), (11, .int .i64 2), (12, .int .i64 4), (13, .int .i64 4), (15, .int .i64 8), (16, .int .i64 8), (17, .int .i64 8), (18, .int .i64 8), (19, .int .i64 8), (20, .int .i64 8), (14, .int .i64 16), (21, .int .i64 16), (22, .int .i64 32), (23, .int .i64 64), (24, .int .i64 64), (25, .int .i64 64), (26, .int .i64 64), (27, .int .i64 64), (28, .int .i64 64), (5, .int .i64 128)]
def bitZ : Array Value := Array.replicate 29 (.int .i64 0)
theorem bit_built : Try.prog.built 82 bitParts.toList = some bitCells := by kernel_rfl
theorem bit_info : (Try.prog.info? 82).map (·.size) = some 29 := by kernel_rfl
theorem bit_cell (m : Nat) (hm : m < 29) : bitCells[m]? = some (.int .i64 (bitOf m)) := by
  have hl : m < bitTab.length := hm
  unfold bitCells bitOf
  rw [if_pos (by omega)]
  simp [List.getElem?_eq_getElem hl, List.getD]

theorem bit_cells : bitCells.size = 29 ∧ bitCells.all (·.oneCell') = true := ⟨by rfl, by simp [bitCells, bitTab, Value.oneCell']⟩

section
variable {P : Program} {o : Oper} {a : Act} {w : World}
theorem exec_build {t : TypeId} {parts : Array (Nat × Operand)} (ho : o.op = .build t parts) {vs : Array (Nat × Value)} (hv : (parts.map fun (i, x) => (i, a.eval x)) = vs) {cells : Array Value} (hf : P.built t vs.toList = some cells) :
    (execOp a.eval o).run P w = .ok (.value (.agg cells)) w := by
  subst hv
  unfold execOp
  simp only [ho, Sem.run_bind, run_build w t _ cells hf, Result.andThen_ok]
  rfl

end

set_option maxRecDepth 100000 in
set_option maxHeartbeats 400000 in
theorem bit_in (m : Nat) (hm : m < 29) (w : World) : Calls Try.prog 22 #[.int .i64 m] w fun e w' => e = .returned (.int .i64 (bitOf m)) ∧ Below w.heap.size w w' := by
  have HX : ∀ o ty, ((w.alloc (.cells o ty)).setRow w.heap.size bitCells).cell? ⟨w.heap.size, m, none⟩ = some (.int .i64 (bitOf m)) := fun o ty => by
    rw [cell_setRow_same _ _ _ _ _ _ _ (heap_alloc_new w _), bit_cell m hm]
  have HB : Hid (∀ o, Below w.heap.size w ((w.alloc o).setRow w.heap.size bitCells)) := fun o => ((Below.refl _ w).alloc (Nat.le_refl _) o).trans ⟨rfl, rfl, rfl, by simp, fun k hk => setRow_other _ _ _ _ (by omega)⟩
  have HS : Hid (∀ (Z : Array Value) (ty : TypeId), Z.size = 29 → (storeCells ⟨w.heap.size, 0, none⟩ bitCells.toList).run Try.prog (w.alloc (.cells Z ty)) = .ok () ((w.alloc (.cells Z ty)).setRow w.heap.size bitCells)) := fun Z ty hZ => by
    have := run_storeCells_from (P := Try.prog) w.heap.size ty bitCells.toList 0 Z (w.alloc (.cells Z ty)) (heap_alloc_new w _) (by rw [hZ]; rfl) (fun v hv => (Array.all_eq_true_iff_forall_mem.1 bit_cells.2) v (by simpa using hv))
    rw [this]
    simp
  have HF := Lib.hid bit_built
  have HI := Lib.hid bit_info
  have hsz := bit_cells.1
  generalize bitCells = cells at *
  generalize bitOf m = r at *
  go_enter Try.func22, Try.ntmps22
  go_wp2_with (first | (with_reducible refine wpList_value (o := ⟨some 4, .build _ _, _, _, _, _⟩) (w := w) rfl (.agg cells) w ?hr ?k) | (with_reducible refine wpList_value (o := ⟨some 4, .build _ _, _, _, _, _⟩) rfl (.agg cells) (w.alloc (.cells bitZ 82)) ?hrB ?kB) | (with_reducible refine wpList_store_row (o := ⟨none, .store _ _ _, _, _, _, _⟩) rfl 82 (.tmp 3) (.tmp 4) rfl w.heap.size cells ?x1 ?x2 82 _ ?x3 ?x4 ?x5 ?x6 ?k2))
  case hr =>
    refine exec_build (t := 82) (vs := bitParts) rfl ?_ HF.out
    simp only [List.map_toArray, List.map_cons, List.map_nil]
    rfl
  have hrun := HS.out #[.int .i64 0, .int .i64 0, .int .i64 0, .int .i64 0, .int .i64 0, .int .i64 0, .int .i64 0, .int .i64 0, .int .i64 0, .int .i64 0, .int .i64 0, .int .i64 0, .int .i64 0, .int .i64 0, .int .i64 0, .int .i64 0, .int .i64 0, .int .i64 0, .int .i64 0, .int .i64 0, .int .i64 0, .int .i64 0, .int .i64 0, .int .i64 0, .int .i64 0, .int .i64 0, .int .i64 0, .int .i64 0, .int .i64 0] 82 rfl
  rw [hrun]
  simp only [Result.andThen_ok, Oper.upon_skip]
  have hx := HX #[.int .i64 0, .int .i64 0, .int .i64 0, .int .i64 0, .int .i64 0, .int .i64 0, .int .i64 0, .int .i64 0, .int .i64 0, .int .i64 0, .int .i64 0, .int .i64 0, .int .i64 0, .int .i64 0, .int .i64 0, .int .i64 0, .int .i64 0, .int .i64 0, .int .i64 0, .int .i64 0, .int .i64 0, .int .i64 0, .int .i64 0, .int .i64 0, .int .i64 0, .int .i64 0, .int .i64 0, .int .i64 0, .int .i64 0] 82
  have hb := HB.out (.cells #[.int .i64 0, .int .i64 0, .int .i64 0, .int .i64 0, .int .i64 0, .int .i64 0, .int .i64 0, .int .i64 0, .int .i64 0, .int .i64 0, .int .i64 0, .int .i64 0, .int .i64 0, .int .i64 0, .int .i64 0, .int .i64 0, .int .i64 0, .int .i64 0, .int .i64 0, .int .i64 0, .int .i64 0, .int .i64 0, .int .i64 0, .int .i64 0, .int .i64 0, .int .i64 0, .int .i64 0, .int .i64 0, .int .i64 0] 82)
  clear hrun HS HX HB
  generalize (w.alloc (.cells #[.int .i64 0, .int .i64 0, .int .i64 0, .int .i64 0, .int .i64 0, .int .i64 0, .int .i64 0, .int .i64 0, .int .i64 0, .int .i64 0, .int .i64 0, .int .i64 0, .int .i64 0, .int .i64 0, .int .i64 0, .int .i64 0, .int .i64 0, .int .i64 0, .int .i64 0, .int .i64 0, .int .i64 0, .int .i64 0, .int .i64 0, .int .i64 0, .int .i64 0, .int .i64 0, .int .i64 0, .int .i64 0, .int .i64 0] 82)).setRow w.heap.size cells = W at *
  go_wp2
  go_ret
  exact ⟨rfl, hb⟩

set_option maxRecDepth 100000 in
set_option maxHeartbeats 400000 in
theorem bit_out (m : Int) (hm : ¬ (0 ≤ m ∧ m < 29)) (w : World) : Calls Try.prog 22 #[.int .i64 m] w fun e w' => e = .returned (.int .i64 0) ∧ Below w.heap.size w w' := by
  have HB : Hid (∀ o, Below w.heap.size w ((w.alloc o).setRow w.heap.size bitCells)) := fun o => ((Below.refl _ w).alloc (Nat.le_refl _) o).trans ⟨rfl, rfl, rfl, by simp, fun k hk => setRow_other _ _ _ _ (by omega)⟩
  have HS : Hid (∀ (Z : Array Value) (ty : TypeId), Z.size = 29 → (storeCells ⟨w.heap.size, 0, none⟩ bitCells.toList).run Try.prog (w.alloc (.cells Z ty)) = .ok () ((w.alloc (.cells Z ty)).setRow w.heap.size bitCells)) := fun Z ty hZ => by
    have := run_storeCells_from (P := Try.prog) w.heap.size ty bitCells.toList 0 Z (w.alloc (.cells Z ty)) (heap_alloc_new w _) (by rw [hZ]; rfl) (fun v hv => (Array.all_eq_true_iff_forall_mem.1 bit_cells.2) v (by simpa using hv))
    rw [this]
    simp
  have HF := Lib.hid bit_built
  have HI := Lib.hid bit_info
  have hsz := bit_cells.1
  generalize bitCells = cells at *
  go_enter Try.func22, Try.ntmps22
  go_wp2_with (first | (with_reducible refine wpList_value (o := ⟨some 4, .build _ _, _, _, _, _⟩) (w := w) rfl (.agg cells) w ?hr ?k) | (with_reducible refine wpList_value (o := ⟨some 4, .build _ _, _, _, _, _⟩) rfl (.agg cells) (w.alloc (.cells bitZ 82)) ?hrB ?kB) | (with_reducible refine wpList_store_row (o := ⟨none, .store _ _ _, _, _, _, _⟩) rfl 82 (.tmp 3) (.tmp 4) rfl w.heap.size cells ?x1 ?x2 82 _ ?x3 ?x4 ?x5 ?x6 ?k2))
  case hr =>
    refine exec_build (t := 82) (vs := bitParts) rfl ?_ HF.out
    simp only [List.map_toArray, List.map_cons, List.map_nil]
    rfl
  have hrun := HS.out #[.int .i64 0, .int .i64 0, .int .i64 0, .int .i64 0, .int .i64 0, .int .i64 0, .int .i64 0, .int .i64 0, .int .i64 0, .int .i64 0, .int .i64 0, .int .i64 0, .int .i64 0, .int .i64 0, .int .i64 0, .int .i64 0, .int .i64 0, .int .i64 0, .int .i64 0, .int .i64 0, .int .i64 0, .int .i64 0, .int .i64 0, .int .i64 0, .int .i64 0, .int .i64 0, .int .i64 0, .int .i64 0, .int .i64 0] 82 rfl
  rw [hrun]
  simp only [Result.andThen_ok, Oper.upon_skip]
  have hb := HB.out (.cells #[.int .i64 0, .int .i64 0, .int .i64 0, .int .i64 0, .int .i64 0, .int .i64 0, .int .i64 0, .int .i64 0, .int .i64 0, .int .i64 0, .int .i64 0, .int .i64 0, .int .i64 0, .int .i64 0, .int .i64 0, .int .i64 0, .int .i64 0, .int .i64 0, .int .i64 0, .int .i64 0, .int .i64 0, .int .i64 0, .int .i64 0, .int .i64 0, .int .i64 0, .int .i64 0, .int .i64 0, .int .i64 0, .int .i64 0] 82)
  clear hrun HS HB
  generalize (w.alloc (.cells #[.int .i64 0, .int .i64 0, .int .i64 0, .int .i64 0, .int .i64 0, .int .i64 0, .int .i64 0, .int .i64 0, .int .i64 0, .int .i64 0, .int .i64 0, .int .i64 0, .int .i64 0, .int .i64 0, .int .i64 0, .int .i64 0, .int .i64 0, .int .i64 0, .int .i64 0, .int .i64 0, .int .i64 0, .int .i64 0, .int .i64 0, .int .i64 0, .int .i64 0, .int .i64 0, .int .i64 0, .int .i64 0, .int .i64 0] 82)).setRow w.heap.size cells = W at *
  go_wp2
  all_goals first | omega | (go_ret; exact ⟨rfl, hb⟩) | skip
  go_ways

theorem bit_any (i : Int) (w : World) : Calls Try.prog 22 #[.int .i64 i] w fun e w' => e = .returned (.int .i64 (bitOf i)) ∧ Below w.heap.size w w' := by
  by_cases h : 0 ≤ i ∧ i < 29
  · obtain ⟨m, rfl⟩ : ∃ m : Nat, i = m := ⟨i.toNat, by omega⟩
    exact bit_in m (by omega) w
  · have : bitOf i = 0 := by unfold bitOf; rw [if_neg h]
    rw [this]
    exact bit_out i h w

end Go.Proofs.Ytgnnnjabgoadaaa
