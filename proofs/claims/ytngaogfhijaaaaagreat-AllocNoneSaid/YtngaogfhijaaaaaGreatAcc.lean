/- What is proved here: which numbers are accounts: the program's bank.Good of token 1, and the reference's own. -/
import Derived.Test.YtngaogfhijaaaaaGreatStore
namespace Go.Proofs.YtngaogfhijaaaaaGreat
open Go.RowKit

def isB (x : Int) : Bool := decide (1 ≤ x) && decide (x ≤ 4294967295)

set_option maxRecDepth 100000 in
set_option maxHeartbeats 1000000 in
theorem ris_any (x : Int) (w : World) : Calls Tryz.prog 88 #[.int .i64 x] w fun e w' => e = .returned (.bool (isB x)) ∧ w = w' := by
  have HX : Hid (isB x = (decide (1 ≤ x) && decide (x ≤ 4294967295))) := rfl
  generalize isB x = r at *
  go_enter Tryz.func88, Tryz.ntmps88
  go_wp2
  all_goals (go_ret; refine ⟨?_, rfl⟩; rw [HX.out]; first | (simp_all; done) | (simp_all; omega))

set_option maxRecDepth 100000 in
set_option maxHeartbeats 1000000 in
theorem bgood_any (x : Int) (w : World) : Calls Tryz.prog 79 #[.int .i64 1, .int .i64 x] w fun e w' => e = .returned (.bool (isB x)) ∧ w = w' := by
  have HX : Hid (isB x = (decide (1 ≤ x) && decide (x ≤ 4294967295))) := rfl
  generalize isB x = r at *
  go_enter Tryz.func79, Tryz.ntmps79
  go_wp2_with go_in
  all_goals (go_ret; refine ⟨?_, rfl⟩; rw [HX.out]; first | (simp_all; done) | (simp_all; omega))

end Go.Proofs.YtngaogfhijaaaaaGreat
