/- What is proved here: a strategy that is there is known: vault.of, Info, service.known, and the reference's own. Their conditions: sizes; it is there. -/
import Derived.Test.YtnblhjndngpbnaaGreatServ1
import Derived.Laws.ResultCell
import Derived.Laws.Rows
namespace Go.Proofs.YtnblhjndngpbnaaGreat
open Go.RowKit

theorem nums_two {w w' : World} {v : ByteArray} {x y : Nat} {e : Ending} (h : RetNumsG w (numsL v.data.toList) e w') (hr : numsL v.data.toList = some [x, y]) : Below w.heap.size w w' ∧ ∃ g c, e = .returned (.tuple #[.slice (some ⟨g, 0, none⟩) 2 c, .bool true]) ∧ w'.cell? ⟨g, 0, none⟩ = some (.int .i64 x) ∧ w'.cell? ⟨g, 1, none⟩ = some (.int .i64 y) := by
  rw [hr] at h
  obtain ⟨hb, u, he, ho, _⟩ := h
  refine ⟨hb, ?_⟩
  rcases ho.2 with ⟨_, h0⟩ | ⟨g, cap, cur, rfl, hg, _, _, hsz, hx⟩
  · cases h0
  · have hl : cur.toList.take 2 = [Value.int .i64 (x : Int), Value.int .i64 (y : Int)] := hx
    have e0 := congrArg (fun l => l[0]?) hl
    have e1 := congrArg (fun l => l[1]?) hl
    simp only [List.getElem?_take] at e0 e1
    refine ⟨g, cap, he, ?_, ?_⟩
    · rw [cell_of_row _ _ _ _ _ _ hg]; simpa using e0
    · rw [cell_of_row _ _ _ _ _ _ hg]; simpa using e1

theorem results_cell_row2 {P : Program} {fn : Func} {p u : Tmp} {ty : TypeId} (h : fn.results = #[.cell p ty, .tmp u]) (tmps : Array Value) (w : World) (g : Nat) (t : TypeId) (cs : Array Value) (fr : Nat × Nat) (d : TypeDesc)
    (hp : tmps.getD p undef = .pointer (some ⟨g, 0, none⟩)) (hg : w.heap[g]? = some (.cells cs t fr))
    (hu : P.underlying ty = some d) (hd : (match d with | .struct _ | .array _ _ => true | _ => false) = true) (hi : (P.info? ty).map (·.size) = some cs.size) :
    (results fn tmps).run P w = .ok (.tuple #[.agg cs, tmps.getD u undef]) w := by
  rw [results_cell_tmp h, hp]
  simp [asAddr, Result.andThen, run_loadVar_row w g t ty cs fr d hg hu hd hi]

theorem setCell_row {w : World} {b off : Nat} {cs : Array Value} {t : TypeId} {fr : Nat × Nat} (v : Value) (h : w.heap[b]? = some (.cells cs t fr)) : (w.setCell ⟨b, off, none⟩ v).heap[b]? = some (.cells (cs.setIfInBounds off v) t fr) := by
  rw [setCell_eq_setRow w b off _ _ _ v h]; exact setRow_heap w b _ _ _ _ h

set_option maxRecDepth 100000 in
set_option maxHeartbeats 4000000 in
theorem vof_any (w : World) (b : Nat) (s : St) (L : List Nat) (f : Nat) (n : Int) (x y : Nat) (hn : n < 9223372036854775808) (h : SRep w b s L) (hf : s.Fit f) (hr : numsL (s.val (keyL 5 [(n : Int)])).data.toList = some [x, y]) :
    Calls Tryz.prog 40 #[.pointer (some ⟨b, 0, none⟩), .int .i64 n] w fun e w' => e = .returned (.tuple #[.agg #[.pointer (some ⟨b, 0, none⟩), .int .i64 n, .int .i64 x, .bool ((y : Int) == 1)], .bool true]) ∧ Below w.heap.size w w' := by
  have HC : Hid (∀ w0, Below w.heap.size w w0 → Calls Tryz.prog 36 #[.int .i64 5, .slice (some ⟨w0.heap.size, 0, none⟩) 1 1] (w0.alloc (.cells #[.int .i64 n] 3)) fun e w1 => e = .returned (.string (keyL 5 [(n : Int)])) ∧
      Calls Tryz.prog 76 #[.pointer (some ⟨b, 0, none⟩), .string (keyL 5 [(n : Int)])] w1 fun e w2 => ∃ ok : Bool, e = .returned (.tuple #[.string (s.val (keyL 5 [(n : Int)])), .bool ok]) ∧
      Calls Tryz.prog 72 #[.string (s.val (keyL 5 [(n : Int)]))] w2 fun e w3 => ∃ g c, e = .returned (.tuple #[.slice (some ⟨g, 0, none⟩) 2 c, .bool true]) ∧ w3.cell? ⟨g, 0, none⟩ = some (.int .i64 x) ∧ w3.cell? ⟨g, 1, none⟩ = some (.int .i64 y) ∧ Below w0.heap.size w0 w3 ∧ Below w.heap.size w w3) := fun w0 hb0 => by
    refine (key_new1 5 (by decide) (by decide) n (by omega) w0).mono fun e w1 ⟨he, hb1⟩ => ⟨he, ?_⟩
    refine (get_any w1 b s L (keyL 5 [(n : Int)]) (h.below (bl_then hb0 hb1))).mono fun e w2 ⟨he, hw⟩ => ⟨_, he, ?_⟩
    subst hw
    refine (nums_any _ (hf.val' _) w1).mono fun e w3 hR => ?_
    obtain ⟨hb3, g, c, he, h0, h1⟩ := nums_two hR hr
    exact ⟨g, c, he, h0, h1, bl_then hb1 hb3, bl_then (bl_then hb0 hb1) hb3⟩
  generalize s.val (keyL 5 [(n : Int)]) = vv at *
  generalize keyL 5 [(n : Int)] = kk at *
  clear h hf hr
  have hb0 : Below w.heap.size w (w.alloc (.cells #[.pointer none, .int .i64 0, .int .i64 0, .bool false] 79)) := (Below.refl _ w).alloc (Nat.le_refl _) _
  have HC1 := HC.out _ hb0
  simp only [World.size_alloc] at HC1
  have HC1 := Lib.hid HC1
  have HBX : Hid (∀ w3, Below (w.heap.size + 1) (w.alloc (.cells #[.pointer none, .int .i64 0, .int .i64 0, .bool false] 79)) w3 → (w3.cell? ⟨w.heap.size, 0, none⟩ = some (.pointer none) ∧ w3.cell? ⟨w.heap.size, 1, none⟩ = some (.int .i64 0) ∧ w3.cell? ⟨w.heap.size, 2, none⟩ = some (.int .i64 0) ∧ w3.cell? ⟨w.heap.size, 3, none⟩ = some (.bool false)) ∧ (w3.frozen? ⟨w.heap.size, 0, none⟩ = false ∧ w3.frozen? ⟨w.heap.size, 1, none⟩ = false ∧ w3.frozen? ⟨w.heap.size, 2, none⟩ = false ∧ w3.frozen? ⟨w.heap.size, 3, none⟩ = false)) := fun w3 hb => by
    have hrow : w3.heap[w.heap.size]? = some (.cells #[.pointer none, .int .i64 0, .int .i64 0, .bool false] 79 (0, 0)) := (hb.block _ (by omega)).trans (heap_alloc_new w _)
    exact ⟨⟨by rw [cell_of_row _ _ _ _ _ _ hrow]; rfl, by rw [cell_of_row _ _ _ _ _ _ hrow]; rfl, by rw [cell_of_row _ _ _ _ _ _ hrow]; rfl, by rw [cell_of_row _ _ _ _ _ _ hrow]; rfl⟩, frozen_of_row _ _ _ _ _ hrow, frozen_of_row _ _ _ _ _ hrow, frozen_of_row _ _ _ _ _ hrow, frozen_of_row _ _ _ _ _ hrow⟩
  clear HC hb0
  go_enter Tryz.func40, Tryz.ntmps40
  go_wp2_with fail
  refine Calls.mono HC1.out ?_
  rintro e w1 ⟨rfl, hC⟩
  have HC2 := Lib.hid hC
  clear hC HC1
  go_wp2_with fail
  refine Calls.mono HC2.out ?_
  rintro e w2 ⟨ok, rfl, hC⟩
  have HC3 := Lib.hid hC
  clear hC HC2
  go_wp2_with fail
  refine Calls.mono HC3.out ?_
  rintro e w3 ⟨g, c, rfl, h0, h1, hb3, hbw⟩
  obtain ⟨⟨q0, q1, q2, q3⟩, f0, f1, f2, f3⟩ := HBX.out w3 hb3
  have hrow : w3.heap[w.heap.size]? = some (.cells #[.pointer none, .int .i64 0, .int .i64 0, .bool false] 79 (0, 0)) := (hb3.block _ (by omega)).trans (heap_alloc_new w _)
  have HROW := Lib.hid hrow
  clear HC3 HBX hb3 hrow
  go_wp2_with fail
  go_region
  all_goals
    go_wp2_with fail
    refine bodyPost_ret (results_cell_row2 rfl _ _ w.heap.size 79 #[.pointer (some ⟨b, 0, none⟩), .int .i64 n, .int .i64 x, .bool ((y : Int) == 1)] (0, 0) _ rfl ?_ Tryz.underlying79 rfl (by kernel_rfl)) rfl ?_
    · exact setCell_row _ (setCell_row _ (setCell_row _ (setCell_row _ HROW.out)))
    · exact ⟨rfl, bl_drew ((((hbw.setCell (p := ⟨w.heap.size, 0, none⟩) (Nat.le_refl _) _).setCell (p := ⟨w.heap.size, 1, none⟩) (Nat.le_refl _) _).setCell (p := ⟨w.heap.size, 2, none⟩) (Nat.le_refl _) _).setCell (p := ⟨w.heap.size, 3, none⟩) (Nat.le_refl _) _)⟩
end Go.Proofs.YtnblhjndngpbnaaGreat
