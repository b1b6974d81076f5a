/- What is proved here: a strings.Builder that a call itself has made: copyCheck, WriteByte, WriteString, String. Its condition: at most 2^47 bytes. -/
import Derived.Test.YtgnnnjabgoadaaaMem
import Derived.Lib.Builder
import Derived.Lib.AppendStr
import Derived.Lib.UnsafeStr
namespace Go.Proofs.Ytgnnnjabgoadaaa
open Go.RowKit

abbrev IsB (w : World) (B b : Nat) (l : List UInt8) : Prop := Lib.IsBuilder 94 5 B b (Lib.byteCells l) w
abbrev IsBU (w : World) (B b : Nat) (l : List UInt8) : Prop := Lib.BuilderAt 94 5 B b (.pointer (some ⟨b, 0, none⟩)) (Lib.byteCells l) w

set_option maxRecDepth 100000 in
set_option maxHeartbeats 1000000 in
theorem copyCheck_used (b : Nat) (w : World) (h0 : w.cell? ⟨b, 0, none⟩ = some (.pointer (some ⟨b, 0, none⟩))) :
    Calls Try.prog 80 #[.pointer (some ⟨b, 0, none⟩)] w fun e w' => e = .returned (.tuple #[]) ∧ w = w' := by
  obtain ⟨j, hj, _⟩ := Option.map_eq_some_iff.1 (show (Try.prog.info? 94).map (·.size) = some 2 by kernel_rfl)
  go_enter Try.func80, Try.ntmps80
  go_wp2
  rw [Lib.run_neq_ptr_same w _ (by kernel_rfl) hj]
  go_wp2
  go_end0
  exact ⟨rfl, rfl⟩

set_option maxRecDepth 100000 in
set_option maxHeartbeats 1000000 in
theorem copyCheck_fresh (b : Nat) (w : World) (h0 : w.cell? ⟨b, 0, none⟩ = some (.pointer none)) (hsh : w.shape? b = some (94, 2)) (hfz : w.frozen? ⟨b, 0, none⟩ = false) :
    Calls Try.prog 80 #[.pointer (some ⟨b, 0, none⟩)] w fun e w' => e = .returned (.tuple #[]) ∧ w.setCell ⟨b, 0, none⟩ (.pointer (some ⟨b, 0, none⟩)) = w' := by
  obtain ⟨j, hj, hjs⟩ := Option.map_eq_some_iff.1 (show (Try.prog.info? 94).map (·.size) = some 2 by kernel_rfl)
  go_enter Try.func80, Try.ntmps80
  go_wp2
  rw [Lib.run_to_unsafe w ⟨b, 0, none⟩ (by kernel_rfl) (by kernel_rfl) hj (by rw [hjs]; decide) hsh (Nat.zero_lt_succ 1)]
  simp only [Result.andThen]
  rw [Oper.upon_value]
  go_wp2
  rw [run_callFunc_extern Try.func96 (by kernel_rfl) (by kernel_rfl) (by kernel_rfl) (e := Extern.AbiNoEscape.same) (by kernel_rfl)]
  rw [Lib.run_noEscape]
  simp only [Result.andThen]
  rw [Oper.upon_value]
  go_wp2
  rw [Lib.run_from_unsafe w ⟨b, 0, none⟩ (by kernel_rfl) (by kernel_rfl) hj hsh (by kernel_rfl)]
  simp only [Result.andThen]
  rw [Oper.upon_value]
  go_wp2
  go_end0
  exact ⟨rfl, rfl⟩

def RetChk (B b : Nat) (l : List UInt8) (w : World) (e : Ending) (w' : World) : Prop := e = .returned (.tuple #[]) ∧ IsBU w' B b l ∧ Below B w w'

theorem copyCheck_any (B b : Nat) (l : List UInt8) (w : World) (h : IsB w B b l) :
    Calls Try.prog 80 #[.pointer (some ⟨b, 0, none⟩)] w (RetChk B b l w) := by
  rcases h with h | h
  · refine (copyCheck_fresh b w h.cell0 h.shape (by obtain ⟨_, v, hb, _⟩ := h; exact frozen_of_row w b 0 _ _ hb)).mono fun e w' ⟨he, hw⟩ => ⟨he, ?_, ?_⟩
    · obtain ⟨hB, v, hb, ho, hne⟩ := h
      subst hw
      refine ⟨hB, v, by rw [setCell_eq_setRow w b 0 _ _ _ _ hb]; exact setRow_heap w b _ _ _ _ hb, ?_, hne⟩
      exact ho.kept (row := some b) ⟨rfl, rfl, rfl, by simp, fun k _ hk => Below.heap_setCell _ _ _ _ (fun e => hk (by rw [e]))⟩ (.inr hne)
    · subst hw
      exact (Below.refl B w).setCell h.1 _
  · refine (copyCheck_used b w h.cell0).mono fun e w' ⟨he, hw⟩ => ?_
    subst hw
    exact ⟨he, h, Below.refl _ _⟩

def RetWr (B b : Nat) (l : List UInt8) (w : World) (v : Value) (e : Ending) (w' : World) : Prop := e = .returned v ∧ IsB w' B b l ∧ Below B w w'

theorem byteCells_app (l l2 : List UInt8) : Lib.byteCells (l ++ l2) = Lib.byteCells l ++ Lib.byteCells l2 := by simp [Lib.byteCells]

/-- The builder with another buffer. -/
theorem isB_set {w w2 : World} {B b : Nat} {l l2 : List UInt8} {v' : Value} (h : IsBU w B b l) (ho : w2.ownsRow B 5 1 v' (l.length + l2.length) (Lib.byteCells l ++ Lib.byteCells l2))
    (hb : w2.heap[b]? = w.heap[b]?) (hne : v'.ownBlock ≠ some b) : IsB (w2.setCell ⟨b, 1, none⟩ v') B b (l ++ l2) := by
  obtain ⟨hBb, v, hbk, _⟩ := h
  rw [← hb] at hbk
  refine .inr ⟨hBb, v', by rw [setCell_eq_setRow w2 b 1 _ _ _ _ hbk]; exact setRow_heap w2 b _ _ _ _ hbk, ?_, hne⟩
  rw [byteCells_app, List.length_append, Lib.byteCells_length, Lib.byteCells_length]
  exact ho.kept (row := some b) ⟨rfl, rfl, rfl, by simp, fun k _ hk => Below.heap_setCell _ _ _ _ (fun e => hk (by rw [e]))⟩ (.inr hne)

set_option maxRecDepth 100000 in
set_option maxHeartbeats 1000000 in
theorem writeByte_any (B b : Nat) (l : List UInt8) (c : UInt8) (w : World) (h : IsB w B b l) (hl : l.length < 1000000000000) (hB : B ≤ w.heap.size) :
    Calls Try.prog 58 #[.pointer (some ⟨b, 0, none⟩), .int .u8 c.toNat] w (RetWr B b (l ++ [c]) w .nilIface) := by
  have HC := Lib.hid (copyCheck_any B b l w h)
  have HP : Hid (∀ w1, IsBU w1 B b l → Below B w w1 → b < w1.heap.size ∧ ∃ v, w1.cell? ⟨b, 1, none⟩ = some v ∧ ∃ g c' w2, (∀ ty, (Builtin.append_ #[36, 36] ty #[v, .slice (some ⟨w1.heap.size, 0, none⟩) 1 1]).run Try.prog (w1.alloc (.cells #[.int .u8 c.toNat] 5)) = .ok (.slice (some ⟨g, 0, none⟩) (l.length + 1) c') w2) ∧
      w2.cell? ⟨b, 1, none⟩ = some v ∧ w2.frozen? ⟨b, 1, none⟩ = false ∧ IsB (w2.setCell ⟨b, 1, none⟩ (.slice (some ⟨g, 0, none⟩) (l.length + 1) c')) B b (l ++ [c]) ∧ Below B w (w2.setCell ⟨b, 1, none⟩ (.slice (some ⟨g, 0, none⟩) (l.length + 1) c'))) := fun w1 h1 hb1 => by
    have h1' := h1
    obtain ⟨hBb, v, hbk, ho, hne⟩ := h1
    have hbw := lt_of_at hbk
    have hB1 : B ≤ w1.heap.size := Nat.le_trans hB hb1.size
    refine ⟨hbw, v, by rw [cell_of_row w1 b 1 _ _ _ hbk]; rfl, ?_⟩
    obtain ⟨i, hi, hz0, hz1, hz2⟩ := info_parts (show (Try.prog.info? 5).map (fun i => (i.zero, i.size, i.bytes)) = some (some (.int .u8 0), 1, 1) by kernel_rfl)
    rw [Lib.byteCells_length] at ho
    obtain ⟨v', w2, hr, ho2, hg2, hnil⟩ := run_append_own (P := Try.prog) (w1.alloc (.cells #[.int .u8 c.toNat] 5)) B 36 0 5 i _ 1 1 (by kernel_rfl) hi hz0 hz1 hz2 rfl (by decide) v l.length (Lib.byteCells l) (ho.alloc _)
      ⟨w1.heap.size, 0, none⟩ 1 1 [.int .u8 c.toNat] rfl (fun j u hj => by rw [Addr.add_lit, cell_of_row _ _ _ _ _ _ (heap_alloc_new w1 _)]; simpa using hj) (by intro u hu; rw [List.mem_singleton.1 hu]; rfl) (by unfold maxLen; omega) (by omega) (by simp; omega)
    obtain ⟨g, c', cur, hv', hgB, hgc, hnc, hcm, hcs, ht⟩ : ∃ g c' cur, v' = .slice (some ⟨g, 0, none⟩) (l.length + 1) c' ∧ B ≤ g ∧ w2.heap[g]? = some (.cells cur 5 (0, 0)) ∧ l.length + 1 ≤ c' ∧ c' ≤ maxLen ∧ cur.size = c' * 1 ∧ cur.toList.take ((l.length + 1) * 1) = Lib.byteCells l ++ [.int .u8 c.toNat] := by
      rcases ho2.2 with ⟨_, h0⟩ | h
      · omega
      · exact h
    subst hv'
    have hgb : g ≠ b := by
      intro e
      subst e
      have hbk2 : w2.heap[g]? = some (.cells #[.pointer (some ⟨g, 0, none⟩), v] 94 (0, 0)) := by
        rw [hg2.block g (by simp; omega) (fun e => hne e.symm), heap_alloc_old w1 _ hbw]; exact hbk
      rw [hgc] at hbk2
      simp at hbk2
    have hb2 : w2.heap[b]? = w1.heap[b]? := by rw [hg2.block b (by simp; omega) (fun e => hne e.symm), heap_alloc_old w1 _ hbw]
    have hbk2 := hbk
    rw [← hb2] at hbk2
    refine ⟨g, c', w2, fun ty => hr, by rw [cell_of_row w2 b 1 _ _ _ hbk2]; rfl, frozen_of_row w2 b 1 _ _ hbk2, ?_, ?_⟩
    · exact isB_set h1' (by simpa [Lib.byteCells] using ho2) hb2 (by simpa [Value.ownBlock] using hgb)
    · refine Below.setCell ((hb1.alloc hB1 _).grown hg2 (by simp; omega) (fun k hk => ?_)) hBb _
      exact (ho.lt k hk).1
  clear h
  go_enter Try.func58, Try.ntmps58
  go_wp2_with fail
  refine HC.out.mono ?_
  rintro e w1 ⟨rfl, hU, hbl⟩
  obtain ⟨hbw, v, hc1, g, c', w2, hr, hc2, hf2, hQ1, hQ2⟩ := HP.out w1 hU hbl
  have HR := Lib.hid hr
  have HQ1 := Lib.hid hQ1
  have HQ2 := Lib.hid hQ2
  clear hr hQ1 hQ2 hU hbl
  go_wp2_with (at_builtin; refine wpList_value rfl _ _ (exec_append rfl rfl rfl (HR.out _)) ?_)
  go_ret
  exact ⟨rfl, HQ1.out, HQ2.out⟩

end Go.Proofs.Ytgnnnjabgoadaaa
