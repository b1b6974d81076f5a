/- What is proved here: the alloc law's own example. No condition. -/
import Derived.Test.YtngaogfhijaaaaaGreatAllocT
namespace Go.Proofs.YtngaogfhijaaaaaGreat
open Go.RowKit

def halfW : W4 := (500000000000000000, 0, 0, 0)
def x7 : I4 := (7, 1, 9, 0)
def lva : St := growS emptySt x7 (uAddS (enc emptySt x7) (uSubS halfW (cur emptySt x7))) (uSubS halfW (cur emptySt x7)) (3 + 5)
def lvb : St := matS lva x7 (uAddS (cur lva x7) halfW)
theorem lva_sub : uSubS halfW (cur emptySt x7) = halfW := by kernel_rfl
theorem lva_p : pend lva x7 = (1, halfW, 8) := by kernel_rfl
theorem lva_c : uAddC (cur lva x7) halfW = 0 := by kernel_rfl
theorem lvb_c : cur lvb x7 = halfW := by kernel_rfl
theorem lvb_e : toAmt (lvb.val (keyL 32 [7, 1])) = halfW := by kernel_rfl
theorem lva_fit : lva.Fit 20 := by
  unfold lva growS waitS
  exact ((((St.Fit.empty.setAmt _ _).put _ (rowB_shortL _ (by decide))).setAmt _ _).put _ (rowB_shortL _ (by decide))).setInt _ _ |>.mono (by decide)
theorem lvb_fit : lvb.Fit 40 := by
  unfold lvb matS
  exact (((lva_fit.setAmt _ _).del _).del _).mono (by decide)
theorem x7_ok : x7.Ok := by
  intro n hn
  simp [x7] at hn
  omega
theorem half_ok : W4.Ok halfW := ⟨by decide, by decide, by decide, by decide⟩

set_option maxRecDepth 100000 in
set_option maxHeartbeats 1000000 in
theorem eqId7 (w : World) : (Op.equalIn 10000 62 (idV x7) (idV (0, 0, 0, 0))).run Tryz.prog w = .ok false w := by
  have u3 := Tryz.underlying3
  have a3 := Tryz.isAgg3
  have z3 := Tryz.sizeOf3
  have hS : Tryz.prog.underlying 62 = some (.struct (Tryz.prog.fieldsOf 62)) := by kernel_rfl
  have hp : Tryz.prog.stoodInHeld 62 = false := by kernel_rfl
  rw [show (10000 : Nat) = 9999 + 1 from rfl, run_equalIn_agg w 9999 62 _ _ hS hp]
  simp only [Program.fieldsOf, Tryz.underlying62]
  unfold x7
  go_simp

set_option maxRecDepth 100000 in
theorem lv_modify (w : World) (b : Nat) (L : List Nat) (h : SRep w b emptySt L) : Calls Tryz.prog 23 #[.pointer (some ⟨b, 0, none⟩), idV x7, chV halfW oneW 3 5 0 false] w (RetSt w b L (.tuple #[.int .i64 8, .int .i64 0]) lva) :=
  modify_new w b emptySt L 0 3 5 0 x7 halfW oneW false (by intro n hn; simp [x7] at hn; omega) (by decide) (by decide) half_ok one_ok h St.Fit.empty (by decide) (by decide) (by decide) (by decide) eqId7 (of_decide_eq_true (by kernel_rfl)) (by kernel_rfl) (by kernel_rfl) (by rw [lva_sub]; decide) (by kernel_rfl) (of_decide_eq_true (by kernel_rfl)) (by kernel_rfl) (by kernel_rfl)
end Go.Proofs.YtngaogfhijaaaaaGreat
