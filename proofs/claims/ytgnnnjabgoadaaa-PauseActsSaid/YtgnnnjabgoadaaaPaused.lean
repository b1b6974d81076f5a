/- What is proved here: pause.Paused at no store, at an unmade store and at a made one; the law's own lives. -/
import Derived.Test.YtgnnnjabgoadaaaPause
import Derived.Test.YtgnnnjabgoadaaaPauseB
namespace Go.Proofs.Ytgnnnjabgoadaaa
open Go.RowKit

theorem bit_zero (i : Int) : bits BinOp.and IntKind.i64 (bitOf i) 0 = 0 := by
  have : ∀ m : Nat, bits BinOp.and IntKind.i64 (m : Int) 0 = 0 := fun m => by simp [bits]; rfl
  have hm : ∃ m : Nat, bitOf i = m := by
    unfold bitOf
    split
    · have hl : ∀ x ∈ bitTab, 0 ≤ x := by decide
      have : 0 ≤ bitTab.getD i.toNat 0 := by
        rw [List.getD]
        cases h : bitTab[i.toNat]? with
        | none => simp
        | some x => simpa using hl x (List.mem_of_getElem? h)
      exact ⟨(bitTab.getD i.toNat 0).toNat, by omega⟩
    · exact ⟨0, rfl⟩
  obtain ⟨m, hm⟩ := hm
  rw [hm, this]

set_option maxRecDepth 100000 in
set_option maxHeartbeats 1000000 in
theorem paused_not (w : World) (q : Option Addr) (i : Int) (h : NoStore w q) : Calls Try.prog 11 #[.pointer q, .int .i64 i] w fun e w' => e = .returned (.bool false) ∧ Below w.heap.size w w' := by
  have HB := Lib.hid (bit_any i w)
  have HF : Hid (∀ w1, Below w.heap.size w w1 → Calls Try.prog 10 #[.pointer q] w1 fun e w' => e = .returned (.int .i64 0) ∧ Below w.heap.size w w') := fun w1 h1 => (flags_not w1 q (h.below h1)).mono fun e w' h2 => ⟨h2.1, h1.trans (h2.2.mono h1.size)⟩
  have hz := bit_zero i
  generalize bitOf i = x at *
  clear h
  go_enter Try.func11, Try.ntmps11
  go_wp2_with (first | (go_at_call 22; refine HB.out.mono ?_; rintro e w1 ⟨rfl, h1⟩) | (go_at_call 10; refine (HF.out _ h1).mono ?_; rintro e w' ⟨rfl, h2⟩))
  go_ret
  exact ⟨rfl, h2⟩

set_option maxRecDepth 100000 in
set_option maxHeartbeats 1000000 in
theorem paused_made (w : World) (b : Nat) (s : St) (L : List Nat) (n : Nat) (i : Int) (r : Bool) (hn : n < 9223372036854775808) (h : SRep w b s L) (hv : s.val (key1 42) = numB n) (hr : (bits BinOp.and IntKind.i64 (bitOf i) (n : Int) != 0) = r) :
    Calls Try.prog 11 #[.pointer (some ⟨b, 0, none⟩), .int .i64 i] w fun e w' => e = .returned (.bool r) ∧ Below w.heap.size w w' := by
  have HB := Lib.hid (bit_any i w)
  have HF : Hid (∀ w1, Below w.heap.size w w1 → Calls Try.prog 10 #[.pointer (some ⟨b, 0, none⟩)] w1 fun e w' => e = .returned (.int .i64 n) ∧ Below w.heap.size w w') := fun w1 h1 => (flags_made w1 b s L n hn (h.fr (Fr.of_below h1 (fun _ => False)) (fun _ _ => id)) hv).mono fun e w' h2 => ⟨h2.1, h1.trans (h2.2.mono h1.size)⟩
  generalize bitOf i = x at *
  clear h hv
  go_enter Try.func11, Try.ntmps11
  go_wp2_with (first | (go_at_call 22; refine HB.out.mono ?_; rintro e w1 ⟨rfl, h1⟩) | (go_at_call 10; refine (HF.out _ h1).mono ?_; rintro e w' ⟨rfl, h2⟩))
  go_ret
  exact ⟨rfl, h2⟩


theorem val_set (s : St) (hs : Sorted s.ents) (k v : ByteArray) : (s.set k v).val k = v := by
  unfold St.set St.val
  split
  · next h => rw [h]; rfl
  · rw [getE_putE _ hs]; simp

set_option maxRecDepth 100000 in
set_option maxHeartbeats 1000000 in
theorem lives35 (w : World) : Calls Try.prog 12 #[] w fun e w' => e = .returned (.bool true) ∧ Below w.heap.size w w' := by
  have HN := Lib.hid (new_any w)
  have HS : Hid (∀ w1 b L, SRep w1 b emptySt L → Fr (fun _ => False) w w1 → (∀ k ∈ L, w.heap.size ≤ k) → Calls Try.prog 9 #[.pointer (some ⟨b, 0, none⟩), .int .i64 3] w1 fun e w' => e = .returned (.int .i64 0) ∧ ∃ L', SRep w' b (emptySt.set (key1 42) (numB 3)) L' ∧ Below w.heap.size w w') := fun w1 b L h h1 h2 =>
    (pset_made w1 b emptySt L 3 (by decide) (by decide) h (by decide)).mono fun e w' ⟨he, L', h3, h4⟩ => ⟨he, L', h3, h1.below.trans ⟨h4.fr.os, h4.fr.tape, h4.fr.output, h4.fr.size, fun k hk => h4.fr.block k (Nat.lt_of_lt_of_le hk h1.size) (fun hm => by have := h2 k hm; omega)⟩⟩
  have HP : ∀ (i : Int) (r : Bool), (bits BinOp.and IntKind.i64 (bitOf i) ((3 : Nat) : Int) != 0) = r → Hid (∀ w1 b L, SRep w1 b (emptySt.set (key1 42) (numB 3)) L → Below w.heap.size w w1 → Calls Try.prog 11 #[.pointer (some ⟨b, 0, none⟩), .int .i64 i] w1 fun e w' => e = .returned (.bool r) ∧ Below w.heap.size w w' ∧ SRep w' b (emptySt.set (key1 42) (numB 3)) L) := fun i r hr w1 b L h h1 =>
    (paused_made w1 b _ L 3 i r (by decide) h (val_set emptySt (by unfold emptySt; exact List.Pairwise.nil) _ _) hr).mono fun e w' ⟨he, hb⟩ => ⟨he, h1.trans (hb.mono h1.size), h.fr (Fr.of_below hb (fun _ => False)) (fun _ _ => id)⟩
  have HP6 := HP 6 true (by decide)
  have HP9 := HP 9 true (by decide)
  have HP12 := HP 12 false (by decide)
  clear HP
  generalize emptySt.set (key1 42) (numB 3) = s1 at *
  go_enter Try.func12, Try.ntmps12
  go_wp2_with fail
  refine HN.out.mono ?_
  rintro e w1 ⟨b, L, rfl, h1, h2, h3⟩
  have HS1 := Lib.hid (HS.out w1 b L h1 h2 h3)
  clear h1 h2 h3 HS
  go_wp2_with fail
  refine HS1.out.mono ?_
  rintro e w2 ⟨rfl, L2, h1, h2⟩
  have H6 := Lib.hid (HP6.out w2 b L2 h1 h2)
  clear h1 h2
  go_wp2_with fail
  refine H6.out.mono ?_
  rintro e w3 ⟨rfl, h2, h1⟩
  have H9 := Lib.hid (HP9.out w3 b L2 h1 h2)
  clear h1 h2
  go_wp2_with fail
  refine H9.out.mono ?_
  rintro e w4 ⟨rfl, h2, h1⟩
  have H12 := Lib.hid (HP12.out w4 b L2 h1 h2)
  clear h1 h2
  go_wp2_with (go_at_call 11; refine H12.out.mono ?_; rintro e w5 ⟨rfl, h2, h1⟩)
  go_ret
  exact ⟨rfl, h2⟩

end Go.Proofs.Ytgnnnjabgoadaaa
