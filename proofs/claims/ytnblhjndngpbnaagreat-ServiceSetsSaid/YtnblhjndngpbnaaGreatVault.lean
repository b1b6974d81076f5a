/- What is proved here: vault.New of token 1, and the reference's own: a strategy more. Their conditions: fewer than 32 strategies, sizes. -/
import Derived.Test.YtnblhjndngpbnaaGreatRowW
import Derived.Test.YtnblhjndngpbnaaGreatAcc
namespace Go.Proofs.YtnblhjndngpbnaaGreat
open Go.RowKit

def K5 : ByteArray := keyL 5 []
/-- One strategy more. -/
def vNew (s : St) : St := (s.setInt K5 ((s.int K5 : Nat) + 1 : Int)).put (keyL 5 [((s.int K5 : Nat) + 1 : Int)]) (rowB [1, 1])

theorem intsAt_cells {w : World} {g : Nat} {l : List Int} (h : ∀ j x, l[j]? = some x → w.cell? ⟨g, j, none⟩ = some (.int .i64 x)) : IntsAt w (.slice (some ⟨g, 0, none⟩) l.length l.length) l :=
  .inr ⟨_, _, rfl, fun j x hj => by rw [Addr.add_lit, Nat.zero_add]; exact h j x hj⟩

theorem bl_alloc {w W : World} (h : Below w.heap.size w W) (o : Obj) : Below w.heap.size w (W.alloc o) := h.alloc h.size o
theorem bl_drew {w W : World} (h : Below w.heap.size w W) : Below w.heap.size w W.drew := ⟨h.os, h.tape, h.output, h.size, h.block⟩
theorem bl_then {w W W' : World} (h : Below w.heap.size w W) (hb : Below W.heap.size W W') : Below w.heap.size w W' := h.trans (hb.mono h.size)
theorem bl_cell {W W' : World} (hb : Below W.heap.size W W') {p : Addr} {v : Value} (h : W.cell? p = some v) : W'.cell? p = some v := by
  rw [hb.cell (World.block_lt_of_cell? W _ h)]; exact h

set_option maxRecDepth 100000 in
set_option maxHeartbeats 1000000 in
theorem vcount_any (w : World) (b : Nat) (s : St) (L : List Nat) (h : SRep w b s L) (hv : (s.val K5).size < 1000000000000) : Calls Tryz.prog 50 #[.pointer (some ⟨b, 0, none⟩)] w (RetInt w (s.int K5)) := by
  have HK := Lib.hid (key_new0 5 (by decide) (by decide) w)
  have HI : Hid (∀ w1, Below w.heap.size w w1 → Calls Tryz.prog 41 #[.pointer (some ⟨b, 0, none⟩), .string (keyL 5 [])] w1 (RetInt w (s.int K5))) := fun w1 h1 => (int_at w1 b s L _ (h.below h1) hv).mono fun _ _ h2 => h2.of_below h1
  generalize s.int K5 = n at *
  generalize keyL 5 [] = k at *
  clear h hv
  go_enter Tryz.func50, Tryz.ntmps50
  go_wp2_with (first | (go_at_call 36; refine Calls.mono HK.out ?_; rintro e w1 ⟨rfl, h1⟩) | (go_at_call 41; refine (HI.out _ h1).mono ?_; rintro e w' ⟨rfl, h2⟩))
  go_ret
  exact ⟨rfl, h2⟩

set_option maxRecDepth 100000 in
set_option maxHeartbeats 1000000 in
theorem rvcount_any (w : World) (b : Nat) (s : St) (L : List Nat) (h : RRep w b s L) (hv : (s.val K5).size < 1000000000000) (hz : s.size < 1000000000000) : Calls Tryz.prog 63 #[.pointer (some ⟨b, 0, none⟩)] w (RetInt w (s.int K5)) := by
  have HK := Lib.hid (rkey_new0 5 (by decide) (by decide) w)
  have HI : Hid (∀ w1, Below w.heap.size w w1 → Calls Tryz.prog 43 #[.pointer (some ⟨b, 0, none⟩), .string (keyL 5 [])] w1 (RetInt w (s.int K5))) := fun w1 h1 => (rint_at w1 b s L _ (h.below h1) hv hz).mono fun _ _ h2 => h2.of_below h1
  generalize s.int K5 = n at *
  generalize keyL 5 [] = k at *
  clear h hv hz
  go_enter Tryz.func63, Tryz.ntmps63
  go_wp2_with (first | (go_at_call 44; refine Calls.mono HK.out ?_; rintro e w1 ⟨rfl, h1⟩) | (go_at_call 43; refine (HI.out _ h1).mono ?_; rintro e w' ⟨rfl, h2⟩))
  go_ret
  exact ⟨rfl, h2⟩

set_option maxRecDepth 100000 in
set_option maxHeartbeats 4000000 in
theorem save_any (w : World) (b : Nat) (s : St) (L : List Nat) (n : Nat) (hn : n < 9223372036854775808) (h : SRep w b s L) (hb : s.size < 1000000000000) :
    Calls Tryz.prog 52 #[.agg #[.pointer (some ⟨b, 0, none⟩), .int .i64 n, .int .i64 1, .bool true]] w (RetSt w b L (.tuple #[]) (s.put (keyL 5 [(n : Int)]) (rowB [1, 1]))) := by
  have HK : Hid (∀ W g, W.cell? ⟨g, 0, none⟩ = some (.int .i64 n) → Calls Tryz.prog 36 #[.int .i64 5, .slice (some ⟨g, 0, none⟩) 1 1] W fun e w' => e = .returned (.string (keyL 5 [(n : Int)])) ∧ Below W.heap.size W w') := fun W g hg =>
    key_any 5 (by decide) (by decide) _ [(n : Int)] W (intsAt_cells (l := [(n : Int)]) fun j x hj => by
      match j, hj with
      | 0, hj => cases hj; exact hg) (by simp) (fun m hm => by rw [List.mem_singleton.1 hm]; omega)
  have HS : Hid (∀ W g, Below w.heap.size w W → W.cell? ⟨g, 0, none⟩ = some (.int .i64 1) → W.cell? ⟨g, 1, none⟩ = some (.int .i64 1) → Calls Tryz.prog 82 #[.pointer (some ⟨b, 0, none⟩), .string (keyL 5 [(n : Int)]), .slice (some ⟨g, 0, none⟩) 2 2] W fun e w' => e = .returned (.tuple #[]) ∧ RetSt w b L (.tuple #[]) (s.put (keyL 5 [(n : Int)]) (rowB [1, 1])) (.returned (.tuple #[])) w') := fun W g hW h0 h1 =>
    (setRow_any W b s L _ _ [1, 1] (h.below hW) hb (intsAt_cells (l := [(1 : Int), 1]) fun j x hj => by
      match j, hj with
      | 0, hj => cases hj; exact h0
      | 1, hj => cases hj; exact h1) (by decide) (by decide) (by decide)).mono fun e w' h2 => ⟨h2.1, RetSt.of_below hW ⟨rfl, h2.2⟩⟩
  generalize RetSt w b L (.tuple #[]) (s.put (keyL 5 [(n : Int)]) (rowB [1, 1])) = R at *
  generalize keyL 5 [(n : Int)] = kk at *
  clear h hb
  have hB : Below w.heap.size w (w.alloc (.cells #[.pointer (some ⟨b, 0, none⟩), .int .i64 n, .int .i64 1, .bool true] 79)) := (Below.refl _ w).alloc (Nat.le_refl _) _
  go_enter Tryz.func52, Tryz.ntmps52
  go_wp2_with fail
  go_region_law (first
    | (go_simp; go_at_call 36; (with_reducible refine Calls.mono (HK.out _ _ (by go_simp)) ?_); rintro e w1 ⟨rfl, hb1⟩; have q0 := bl_cell (p := ⟨w.heap.size, 0, none⟩) (v := .pointer (some ⟨b, 0, none⟩)) hb1 (by go_simp); have q2 := bl_cell (p := ⟨w.heap.size, 2, none⟩) (v := .int .i64 1) hb1 (by go_simp); have q0a := fun o => bl_cell ((Below.refl _ w1).alloc (Nat.le_refl _) o) q0; have q2a := fun o => bl_cell ((Below.refl _ w1).alloc (Nat.le_refl _) o) q2)
    | (go_simp; go_at_call 82; (with_reducible refine Calls.mono (HS.out _ _ (by repeat (first | exact hB | apply bl_alloc | apply bl_drew | refine bl_then ?_ hb1)) (by first | (go_simp; done) | (refine bl_cell hb1 ?_; go_simp; done)) (by first | (go_simp; done) | (refine bl_cell hb1 ?_; go_simp; done))) ?_); rintro e w2 ⟨rfl, hR⟩))
  all_goals
    go_end0
    exact hR

/-- Nothing lies at the empty key. -/
def NoE (s : St) : Prop := s.val emptyB = emptyB
theorem NoE.put {s : St} (h : NoE s) (hs : Sorted s.ents) {k v : ByteArray} (hk : k ≠ emptyB) : NoE (s.put k v) := by
  unfold NoE
  rw [val_put s hs k v emptyB hk, if_neg hk]; exact h
theorem keyL_some (t : Nat) {l : List Int} (h : ∀ x ∈ l, 0 ≤ x) : keyL t l ≠ emptyB := fun e => by
  have := congrArg ByteArray.size e
  rw [keyL_pos (by intro x hx; have := h x hx; omega)] at this
  have h1 : (⟨(keyBytes t l).toArray⟩ : ByteArray).size = 1 + 8 * l.length := by
    show (keyBytes t l).toArray.size = _
    rw [List.size_toArray, keyBytes_len]
  rw [h1] at this
  have h2 : emptyB.size = 0 := rfl
  omega
theorem two_ints (W : World) (x y : Int) : IntsAt (W.alloc (.cells #[.int .i64 x, .int .i64 y] 3)) (.slice (some ⟨W.heap.size, 0, none⟩) 2 2) [x, y] :=
  intsAt_cells (l := [x, y]) fun j z hj => by
    rw [cell_of_row _ _ _ _ _ _ (heap_alloc_new W _)]
    match j, hj with
    | 0, hj => cases hj; rfl
    | 1, hj => cases hj; rfl

theorem own_three {w : World} {v : Value} {x y z : Int} {e : Nat} (h : Own w e 1 v 3 [.int .i64 x, .int .i64 y, .int .i64 z]) : ∃ g c, v = .slice (some ⟨g, 0, none⟩) 3 c ∧ ∀ w', Below w.heap.size w w' → w'.cell? ⟨g, 0, none⟩ = some (.int .i64 x) ∧ w'.cell? ⟨g, 1, none⟩ = some (.int .i64 y) ∧ w'.cell? ⟨g, 2, none⟩ = some (.int .i64 z) := by
  rcases h.2 with ⟨_, h0⟩ | ⟨g, cap, cur, rfl, hg, _, _, _, hx⟩
  · cases h0
  · refine ⟨g, cap, rfl, fun w' hb => ?_⟩
    have hlt : g < w.heap.size := (Array.getElem?_eq_some_iff.1 hg).1
    have hl : cur.toList.take 3 = [Value.int .i64 x, Value.int .i64 y, Value.int .i64 z] := hx
    have e0 := congrArg (fun l => l[0]?) hl
    have e1 := congrArg (fun l => l[1]?) hl
    have e2 := congrArg (fun l => l[2]?) hl
    simp only [List.getElem?_take] at e0 e1 e2
    refine ⟨?_, ?_, ?_⟩
    · rw [hb.cell (p := ⟨g, 0, none⟩) hlt, cell_of_row _ _ _ _ _ _ hg]; simpa using e0
    · rw [hb.cell (p := ⟨g, 1, none⟩) hlt, cell_of_row _ _ _ _ _ _ hg]; simpa using e1
    · rw [hb.cell (p := ⟨g, 2, none⟩) hlt, cell_of_row _ _ _ _ _ _ hg]; simpa using e2

end Go.Proofs.YtnblhjndngpbnaaGreat
