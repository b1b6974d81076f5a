/- What is proved here: which numbers are accounts: the program's bank.Good of token 1, and the reference's own. -/
import Derived.Test.YtnblhjndngpbnaaGreatCell
namespace Go.Proofs.YtnblhjndngpbnaaGreat
open Go.RowKit

def isB (x : Int) : Bool := decide (1 ≤ x) && decide (x ≤ 4294967295)

set_option maxRecDepth 100000 in
set_option maxHeartbeats 1000000 in
theorem ris_any (x : Int) (w : World) : Calls Tryz.prog 58 #[.int .i64 x] w fun e w' => e = .returned (.bool (isB x)) ∧ w = w' := by
  have HX : Hid (isB x = (decide (1 ≤ x) && decide (x ≤ 4294967295))) := rfl
  generalize isB x = r at *
  go_enter Tryz.func58, Tryz.ntmps58
  go_wp2
  all_goals (go_ret; refine ⟨?_, rfl⟩; rw [HX.out]; first | (simp_all; done) | (simp_all; omega))

set_option maxRecDepth 100000 in
set_option maxHeartbeats 1000000 in
theorem bgood_any (x : Int) (w : World) : Calls Tryz.prog 49 #[.int .i64 1, .int .i64 x] w fun e w' => e = .returned (.bool (isB x)) ∧ w = w' := by
  have HX : Hid (isB x = (decide (1 ≤ x) && decide (x ≤ 4294967295))) := rfl
  generalize isB x = r at *
  go_enter Tryz.func49, Tryz.ntmps49
  go_wp2_with go_in
  all_goals (go_ret; refine ⟨?_, rfl⟩; rw [HX.out]; first | (simp_all; done) | (simp_all; omega))


theorem sint_below {w : World} {b : Nat} {s : St} {L : List Nat} {m : Nat} (h : SRep w b s L) (hf : s.Fit m) (_ : m < 100000000000) (k : ByteArray) :
    Hid (∀ w1, Below w.heap.size w w1 → Calls Tryz.prog 41 #[.pointer (some ⟨b, 0, none⟩), .string k] w1 (RetInt w (s.int k))) := fun w1 h1 =>
  (int_at w1 b s L k (h.below h1) (hf.val' _)).mono fun _ _ h2 => h2.of_below h1

theorem ssetInt_below {w : World} {b : Nat} {s : St} {L : List Nat} (h : SRep w b s L) (hb : s.size < 1000000000000) (k : ByteArray) (n : Int) (hn : n < 9223372036854775808) :
    Hid (∀ w1, Below w.heap.size w w1 → Calls Tryz.prog 53 #[.pointer (some ⟨b, 0, none⟩), .string k, .int .i64 n] w1 fun e w' => e = .returned (.tuple #[]) ∧ ∃ L', SRep w' b (s.setInt k n) L' ∧ Step w L w' L') := fun w1 h1 =>
  (setIntG_any w1 b s L k n hn (h.below h1) hb).mono fun _ _ h2 => h2.of_below h1

theorem rsint_below {w : World} {b : Nat} {s : St} {L : List Nat} {m : Nat} (h : RRep w b s L) (hf : s.Fit m) (hm : m < 100000000000) (k : ByteArray) :
    Hid (∀ w1, Below w.heap.size w w1 → Calls Tryz.prog 43 #[.pointer (some ⟨b, 0, none⟩), .string k] w1 (RetInt w (s.int k))) := fun w1 h1 =>
  (rint_at w1 b s L k (h.below h1) (hf.val' _) (Nat.lt_of_le_of_lt hf.size (by omega))).mono fun _ _ h2 => h2.of_below h1

theorem rssetInt_below {w : World} {b : Nat} {s : St} {L : List Nat} (h : RRep w b s L) (hb : s.size < 1000000000000) (k : ByteArray) (n : Int) (hn : n < 9223372036854775808) :
    Hid (∀ w1, Below w.heap.size w w1 → Calls Tryz.prog 59 #[.pointer (some ⟨b, 0, none⟩), .string k, .int .i64 n] w1 fun e w' => e = .returned (.tuple #[]) ∧ ∃ L', RRep w' b (s.setInt k n) L' ∧ Step w L w' L') := fun w1 h1 =>
  (rsetInt_any w1 b s L k n hn (h.below h1) hb).mono fun _ _ h2 => h2.of_below h1

end Go.Proofs.YtnblhjndngpbnaaGreat
