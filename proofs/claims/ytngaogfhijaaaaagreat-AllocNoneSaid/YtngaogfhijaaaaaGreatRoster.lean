/- What is proved here: roster.Is, Of, Register, Choose and Leave over a store. Their conditions: numbers below 2^63, fewer than 10^12 entries and changes, short values. -/
import Derived.Test.YtngaogfhijaaaaaGreatRosterP
namespace Go.Proofs.YtngaogfhijaaaaaGreat
open Go.RowKit

set_option maxRecDepth 100000 in
set_option maxHeartbeats 1000000 in
theorem acc_any (x : Int) (w : World) : Calls Tryz.prog 101 #[.int .i64 x] w fun e w' => e = .returned (.bool (isB x)) ∧ w = w' := by
  have HB := Lib.hid (fun w => bgood_any x w)
  generalize isB x = r at *
  go_enter Tryz.func101, Tryz.ntmps101
  go_wp2_with (go_at_call 79; refine (HB.out _).mono ?_; rintro e w' ⟨rfl, rfl⟩)
  go_ret
  exact ⟨rfl, rfl⟩

theorem sint_below {w : World} {b : Nat} {s : St} {L : List Nat} {m : Nat} (h : SRep w b s L) (hf : s.Fit m) (_ : m < 100000000000) (k : ByteArray) :
    Hid (∀ w1, Below w.heap.size w w1 → Calls Tryz.prog 108 #[.pointer (some ⟨b, 0, none⟩), .string k] w1 (RetInt w (s.int k))) := fun w1 h1 =>
  (int_at w1 b s L k (h.below h1) (hf.val' _)).mono fun _ _ h2 => h2.of_below h1

theorem ssetInt_below {w : World} {b : Nat} {s : St} {L : List Nat} (h : SRep w b s L) (hb : s.size < 1000000000000) (k : ByteArray) (n : Int) (hn : n < 9223372036854775808) :
    Hid (∀ w1, Below w.heap.size w w1 → Calls Tryz.prog 87 #[.pointer (some ⟨b, 0, none⟩), .string k, .int .i64 n] w1 fun e w' => e = .returned (.tuple #[]) ∧ ∃ L', SRep w' b (s.setInt k n) L' ∧ Step w L w' L') := fun w1 h1 =>
  (setIntG_any w1 b s L k n hn (h.below h1) hb).mono fun _ _ h2 => h2.of_below h1

set_option maxRecDepth 100000 in
set_option maxHeartbeats 1000000 in
theorem isR_any (w : World) (b : Nat) (s : St) (L : List Nat) (m : Nat) (a : Int) (ha : a < 9223372036854775808) (h : SRep w b s L) (hf : s.Fit m) (hm : m < 100000000000) :
    Calls Tryz.prog 46 #[.pointer (some ⟨b, 0, none⟩), .int .i64 a] w (RetBool w (rIs s a)) := by
  have HK := Lib.hid (key_new1 8 (by omega) (by omega) a ha w)
  have HI := sint_below h hf hm (keyL 8 [a])
  unfold rIs K8
  have he : ((s.int (keyL 8 [a]) : Int) == 1) = (s.int (keyL 8 [a]) == 1) := by
    rw [Bool.eq_iff_iff, beq_iff_eq, beq_iff_eq]; omega
  generalize s.int (keyL 8 [a]) = x at *
  generalize keyL 8 [a] = k at *
  clear h hf hm
  go_enter Tryz.func46, Tryz.ntmps46
  go_wp2_with (first | (go_at_call 75; refine Calls.mono HK.out ?_; rintro e w1 ⟨rfl, h1⟩) | (go_at_call 108; refine (HI.out _ h1).mono ?_; rintro e w' ⟨rfl, h2⟩))
  go_ret
  exact ⟨rfl, h2⟩

set_option maxRecDepth 100000 in
set_option maxHeartbeats 1000000 in
theorem ofR_any (w : World) (b : Nat) (s : St) (L : List Nat) (m : Nat) (a : Int) (ha : a < 9223372036854775808) (h : SRep w b s L) (hf : s.Fit m) (hm : m < 100000000000) :
    Calls Tryz.prog 102 #[.pointer (some ⟨b, 0, none⟩), .int .i64 a] w (RetInt w (rOf s a)) := by
  have HK := Lib.hid (key_new1 9 (by omega) (by omega) a ha w)
  have HI := sint_below h hf hm (keyL 9 [a])
  unfold rOf K9
  generalize s.int (keyL 9 [a]) = x at *
  generalize keyL 9 [a] = k at *
  clear h hf hm
  go_enter Tryz.func102, Tryz.ntmps102
  go_wp2_with (first | (go_at_call 75; refine Calls.mono HK.out ?_; rintro e w1 ⟨rfl, h1⟩) | (go_at_call 108; refine (HI.out _ h1).mono ?_; rintro e w' ⟨rfl, h2⟩))
  go_ret
  exact ⟨rfl, h2⟩
end Go.Proofs.YtngaogfhijaaaaaGreat
