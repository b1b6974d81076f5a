/- What is proved here: which numbers are accounts: the program's bank.Good of token 1, and the reference's own. -/
import Derived.Test.YtbljaikifgpflaaStore
namespace Go.Proofs.Ytbljaikifgpflaa
open Go.RowKit

def isB (x : Int) : Bool := decide (1 ≤ x) && decide (x ≤ 4294967295)

set_option maxRecDepth 100000 in
set_option maxHeartbeats 1000000 in
theorem ris_any (x : Int) (w : World) : Calls Try.prog 38 #[.int .i64 x] w fun e w' => e = .returned (.bool (isB x)) ∧ w = w' := by
  have HX : Hid (isB x = (decide (1 ≤ x) && decide (x ≤ 4294967295))) := rfl
  generalize isB x = r at *
  go_enter Try.func38, Try.ntmps38
  go_wp2
  all_goals (go_ret; refine ⟨?_, rfl⟩; rw [HX.out]; first | (simp_all; done) | (simp_all; omega))

set_option maxRecDepth 100000 in
set_option maxHeartbeats 1000000 in
theorem bgood_any (x : Int) (w : World) : Calls Try.prog 50 #[.int .i64 1, .int .i64 x] w fun e w' => e = .returned (.bool (isB x)) ∧ w = w' := by
  have HX : Hid (isB x = (decide (1 ≤ x) && decide (x ≤ 4294967295))) := rfl
  generalize isB x = r at *
  go_enter Try.func50, Try.ntmps50
  go_wp2_with go_in
  all_goals (go_ret; refine ⟨?_, rfl⟩; rw [HX.out]; first | (simp_all; done) | (simp_all; omega))

end Go.Proofs.Ytbljaikifgpflaa
