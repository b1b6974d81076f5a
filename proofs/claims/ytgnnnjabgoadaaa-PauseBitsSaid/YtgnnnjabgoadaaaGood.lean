/- What is proved here: pause.Good and the reference's own. -/
import Derived.Test.YtgnnnjabgoadaaaStore
namespace Go.Proofs.Ytgnnnjabgoadaaa
open Go.RowKit

def isB (x : Int) : Bool := decide (1 ≤ x) && decide (x ≤ 4294967295)

set_option maxRecDepth 100000 in
set_option maxHeartbeats 1000000 in
theorem ris_any (x : Int) (w : World) : Calls Try.prog 55 #[.int .i64 x] w fun e w' => e = .returned (.bool (isB x)) ∧ w = w' := by
  have HX : Hid (isB x = (decide (1 ≤ x) && decide (x ≤ 4294967295))) := rfl
  generalize isB x = r at *
  go_enter Try.func55, Try.ntmps55
  go_wp2
  all_goals (go_ret; refine ⟨?_, rfl⟩; rw [HX.out]; first | (simp_all; done) | (simp_all; omega))

set_option maxRecDepth 100000 in
set_option maxHeartbeats 1000000 in
theorem bgood_any (x : Int) (w : World) : Calls Try.prog 54 #[.int .i64 1, .int .i64 x] w fun e w' => e = .returned (.bool (isB x)) ∧ w = w' := by
  have HX : Hid (isB x = (decide (1 ≤ x) && decide (x ≤ 4294967295))) := rfl
  generalize isB x = r at *
  go_enter Try.func54, Try.ntmps54
  go_wp2_with go_in
  all_goals (go_ret; refine ⟨?_, rfl⟩; rw [HX.out]; first | (simp_all; done) | (simp_all; omega))


theorem idx3 (a b c : Int) (w : World) : (Instr.index 86 (.agg #[.int .i64 a, .int .i64 b, .int .i64 c]) (.int .i64 0)).run Try.prog w = .ok (.int .i64 a) w ∧ (Instr.index 86 (.agg #[.int .i64 a, .int .i64 b, .int .i64 c]) (.int .i64 1)).run Try.prog w = .ok (.int .i64 b) w ∧ (Instr.index 86 (.agg #[.int .i64 a, .int .i64 b, .int .i64 c]) (.int .i64 2)).run Try.prog w = .ok (.int .i64 c) w := ⟨by kernel_rfl, by kernel_rfl, by kernel_rfl⟩
theorem idx4 (a b c d : Int) (w : World) : (Instr.index 87 (.agg #[.int .i64 a, .int .i64 b, .int .i64 c, .int .i64 d]) (.int .i64 0)).run Try.prog w = .ok (.int .i64 a) w ∧ (Instr.index 87 (.agg #[.int .i64 a, .int .i64 b, .int .i64 c, .int .i64 d]) (.int .i64 1)).run Try.prog w = .ok (.int .i64 b) w ∧ (Instr.index 87 (.agg #[.int .i64 a, .int .i64 b, .int .i64 c, .int .i64 d]) (.int .i64 2)).run Try.prog w = .ok (.int .i64 c) w ∧ (Instr.index 87 (.agg #[.int .i64 a, .int .i64 b, .int .i64 c, .int .i64 d]) (.int .i64 3)).run Try.prog w = .ok (.int .i64 d) w := ⟨by kernel_rfl, by kernel_rfl, by kernel_rfl, by kernel_rfl⟩

def inR (x : Int) : Bool := !(decide (x < 0) || decide (1000000 < x))
def goodOf (f0 f1 f2 f3 f4 f5 f6 : Int) : Bool := isB f0 && isB f1 && isB f2 && inR f3 && inR f4 && inR f5 && inR f6 && (decide (0 < f3) && decide (0 < f4))

set_option maxRecDepth 100000 in
set_option maxHeartbeats 4000000 in
theorem good_any (f0 f1 f2 f3 f4 f5 f6 : Int) (w : World) : Calls Try.prog 28 #[.agg #[.int .i64 f0, .int .i64 f1, .int .i64 f2, .int .i64 f3, .int .i64 f4, .int .i64 f5, .int .i64 f6]] w fun e w' => e = .returned (.bool (goodOf f0 f1 f2 f3 f4 f5 f6)) ∧ Below w.heap.size w w' := by
  have HG := Lib.hid (fun (x : Int) (w : World) => bgood_any x w)
  have HB : Hid (∀ o, Below w.heap.size w (w.alloc o)) := fun o => (Below.refl _ w).alloc (Nat.le_refl _) o
  have HX : Hid (goodOf f0 f1 f2 f3 f4 f5 f6 = (isB f0 && isB f1 && isB f2 && inR f3 && inR f4 && inR f5 && inR f6 && (decide (0 < f3) && decide (0 < f4)))) := rfl
  have h31 := fun w => (idx3 f0 f1 f2 w).1
  have h32 := fun w => (idx3 f0 f1 f2 w).2.1
  have h33 := fun w => (idx3 f0 f1 f2 w).2.2
  have h41 := fun w => (idx4 f3 f4 f5 f6 w).1
  have h42 := fun w => (idx4 f3 f4 f5 f6 w).2.1
  have h43 := fun w => (idx4 f3 f4 f5 f6 w).2.2.1
  have h44 := fun w => (idx4 f3 f4 f5 f6 w).2.2.2
  generalize goodOf f0 f1 f2 f3 f4 f5 f6 = r at *
  cases hb0 : isB f0 with
  | false =>
    go_enter Try.func28, Try.ntmps28
    go_wp2_with fail
    refine wp_loop_rounds 4 ?_
    rw [rounds_succ]
    go_wp2_with (go_at_call 54; refine (HG.out _ _).mono ?_; rintro e w' ⟨rfl, rfl⟩)
    go_ret
    exact ⟨by rw [HX.out]; simp [*], HB.out _⟩
  | true =>
  cases hb1 : isB f1 with
  | false =>
    go_enter Try.func28, Try.ntmps28
    go_wp2_with fail
    refine wp_loop_rounds 4 ?_
    rw [rounds_succ]
    go_wp2_with (go_at_call 54; refine (HG.out _ _).mono ?_; rintro e w' ⟨rfl, rfl⟩)
    rw [rounds_succ]
    go_wp2_with (go_at_call 54; refine (HG.out _ _).mono ?_; rintro e w' ⟨rfl, rfl⟩)
    go_ret
    exact ⟨by rw [HX.out]; simp [*], HB.out _⟩
  | true =>
  cases hb2 : isB f2 with
  | false =>
    go_enter Try.func28, Try.ntmps28
    go_wp2_with fail
    refine wp_loop_rounds 4 ?_
    rw [rounds_succ]
    go_wp2_with (go_at_call 54; refine (HG.out _ _).mono ?_; rintro e w' ⟨rfl, rfl⟩)
    rw [rounds_succ]
    go_wp2_with (go_at_call 54; refine (HG.out _ _).mono ?_; rintro e w' ⟨rfl, rfl⟩)
    rw [rounds_succ]
    go_wp2_with (go_at_call 54; refine (HG.out _ _).mono ?_; rintro e w' ⟨rfl, rfl⟩)
    go_ret
    exact ⟨by rw [HX.out]; simp [*], HB.out _⟩
  | true =>
  cases nf3 : decide (f3 < 0) with
  | true =>
    go_enter Try.func28, Try.ntmps28
    go_wp2_with fail
    refine wp_loop_rounds 4 ?_
    rw [rounds_succ]
    go_wp2_with (go_at_call 54; refine (HG.out _ _).mono ?_; rintro e w' ⟨rfl, rfl⟩)
    rw [rounds_succ]
    go_wp2_with (go_at_call 54; refine (HG.out _ _).mono ?_; rintro e w' ⟨rfl, rfl⟩)
    rw [rounds_succ]
    go_wp2_with (go_at_call 54; refine (HG.out _ _).mono ?_; rintro e w' ⟨rfl, rfl⟩)
    rw [rounds_succ]
    go_wp2_with (go_at_call 54; refine (HG.out _ _).mono ?_; rintro e w' ⟨rfl, rfl⟩)
    refine wp_loop_rounds 5 ?_
    rw [rounds_succ]
    go_wp2
    go_ret
    exact ⟨by rw [HX.out]; simp [inR, *], HB.out _⟩
  | false =>
  cases mf3 : decide (1000000 < f3) with
  | true =>
    go_enter Try.func28, Try.ntmps28
    go_wp2_with fail
    refine wp_loop_rounds 4 ?_
    rw [rounds_succ]
    go_wp2_with (go_at_call 54; refine (HG.out _ _).mono ?_; rintro e w' ⟨rfl, rfl⟩)
    rw [rounds_succ]
    go_wp2_with (go_at_call 54; refine (HG.out _ _).mono ?_; rintro e w' ⟨rfl, rfl⟩)
    rw [rounds_succ]
    go_wp2_with (go_at_call 54; refine (HG.out _ _).mono ?_; rintro e w' ⟨rfl, rfl⟩)
    rw [rounds_succ]
    go_wp2_with (go_at_call 54; refine (HG.out _ _).mono ?_; rintro e w' ⟨rfl, rfl⟩)
    refine wp_loop_rounds 5 ?_
    rw [rounds_succ]
    go_wp2
    go_ret
    exact ⟨by rw [HX.out]; simp [inR, *], HB.out _⟩
  | false =>
  cases nf4 : decide (f4 < 0) with
  | true =>
    go_enter Try.func28, Try.ntmps28
    go_wp2_with fail
    refine wp_loop_rounds 4 ?_
    rw [rounds_succ]
    go_wp2_with (go_at_call 54; refine (HG.out _ _).mono ?_; rintro e w' ⟨rfl, rfl⟩)
    rw [rounds_succ]
    go_wp2_with (go_at_call 54; refine (HG.out _ _).mono ?_; rintro e w' ⟨rfl, rfl⟩)
    rw [rounds_succ]
    go_wp2_with (go_at_call 54; refine (HG.out _ _).mono ?_; rintro e w' ⟨rfl, rfl⟩)
    rw [rounds_succ]
    go_wp2_with (go_at_call 54; refine (HG.out _ _).mono ?_; rintro e w' ⟨rfl, rfl⟩)
    refine wp_loop_rounds 5 ?_
    rw [rounds_succ]
    go_wp2
    rw [rounds_succ]
    go_wp2
    go_ret
    exact ⟨by rw [HX.out]; simp [inR, *], HB.out _⟩
  | false =>
  cases mf4 : decide (1000000 < f4) with
  | true =>
    go_enter Try.func28, Try.ntmps28
    go_wp2_with fail
    refine wp_loop_rounds 4 ?_
    rw [rounds_succ]
    go_wp2_with (go_at_call 54; refine (HG.out _ _).mono ?_; rintro e w' ⟨rfl, rfl⟩)
    rw [rounds_succ]
    go_wp2_with (go_at_call 54; refine (HG.out _ _).mono ?_; rintro e w' ⟨rfl, rfl⟩)
    rw [rounds_succ]
    go_wp2_with (go_at_call 54; refine (HG.out _ _).mono ?_; rintro e w' ⟨rfl, rfl⟩)
    rw [rounds_succ]
    go_wp2_with (go_at_call 54; refine (HG.out _ _).mono ?_; rintro e w' ⟨rfl, rfl⟩)
    refine wp_loop_rounds 5 ?_
    rw [rounds_succ]
    go_wp2
    rw [rounds_succ]
    go_wp2
    go_ret
    exact ⟨by rw [HX.out]; simp [inR, *], HB.out _⟩
  | false =>
  cases nf5 : decide (f5 < 0) with
  | true =>
    go_enter Try.func28, Try.ntmps28
    go_wp2_with fail
    refine wp_loop_rounds 4 ?_
    rw [rounds_succ]
    go_wp2_with (go_at_call 54; refine (HG.out _ _).mono ?_; rintro e w' ⟨rfl, rfl⟩)
    rw [rounds_succ]
    go_wp2_with (go_at_call 54; refine (HG.out _ _).mono ?_; rintro e w' ⟨rfl, rfl⟩)
    rw [rounds_succ]
    go_wp2_with (go_at_call 54; refine (HG.out _ _).mono ?_; rintro e w' ⟨rfl, rfl⟩)
    rw [rounds_succ]
    go_wp2_with (go_at_call 54; refine (HG.out _ _).mono ?_; rintro e w' ⟨rfl, rfl⟩)
    refine wp_loop_rounds 5 ?_
    rw [rounds_succ]
    go_wp2
    rw [rounds_succ]
    go_wp2
    rw [rounds_succ]
    go_wp2
    go_ret
    exact ⟨by rw [HX.out]; simp [inR, *], HB.out _⟩
  | false =>
  cases mf5 : decide (1000000 < f5) with
  | true =>
    go_enter Try.func28, Try.ntmps28
    go_wp2_with fail
    refine wp_loop_rounds 4 ?_
    rw [rounds_succ]
    go_wp2_with (go_at_call 54; refine (HG.out _ _).mono ?_; rintro e w' ⟨rfl, rfl⟩)
    rw [rounds_succ]
    go_wp2_with (go_at_call 54; refine (HG.out _ _).mono ?_; rintro e w' ⟨rfl, rfl⟩)
    rw [rounds_succ]
    go_wp2_with (go_at_call 54; refine (HG.out _ _).mono ?_; rintro e w' ⟨rfl, rfl⟩)
    rw [rounds_succ]
    go_wp2_with (go_at_call 54; refine (HG.out _ _).mono ?_; rintro e w' ⟨rfl, rfl⟩)
    refine wp_loop_rounds 5 ?_
    rw [rounds_succ]
    go_wp2
    rw [rounds_succ]
    go_wp2
    rw [rounds_succ]
    go_wp2
    go_ret
    exact ⟨by rw [HX.out]; simp [inR, *], HB.out _⟩
  | false =>
  cases nf6 : decide (f6 < 0) with
  | true =>
    go_enter Try.func28, Try.ntmps28
    go_wp2_with fail
    refine wp_loop_rounds 4 ?_
    rw [rounds_succ]
    go_wp2_with (go_at_call 54; refine (HG.out _ _).mono ?_; rintro e w' ⟨rfl, rfl⟩)
    rw [rounds_succ]
    go_wp2_with (go_at_call 54; refine (HG.out _ _).mono ?_; rintro e w' ⟨rfl, rfl⟩)
    rw [rounds_succ]
    go_wp2_with (go_at_call 54; refine (HG.out _ _).mono ?_; rintro e w' ⟨rfl, rfl⟩)
    rw [rounds_succ]
    go_wp2_with (go_at_call 54; refine (HG.out _ _).mono ?_; rintro e w' ⟨rfl, rfl⟩)
    refine wp_loop_rounds 5 ?_
    rw [rounds_succ]
    go_wp2
    rw [rounds_succ]
    go_wp2
    rw [rounds_succ]
    go_wp2
    rw [rounds_succ]
    go_wp2
    go_ret
    exact ⟨by rw [HX.out]; simp [inR, *], HB.out _⟩
  | false =>
  cases mf6 : decide (1000000 < f6) with
  | true =>
    go_enter Try.func28, Try.ntmps28
    go_wp2_with fail
    refine wp_loop_rounds 4 ?_
    rw [rounds_succ]
    go_wp2_with (go_at_call 54; refine (HG.out _ _).mono ?_; rintro e w' ⟨rfl, rfl⟩)
    rw [rounds_succ]
    go_wp2_with (go_at_call 54; refine (HG.out _ _).mono ?_; rintro e w' ⟨rfl, rfl⟩)
    rw [rounds_succ]
    go_wp2_with (go_at_call 54; refine (HG.out _ _).mono ?_; rintro e w' ⟨rfl, rfl⟩)
    rw [rounds_succ]
    go_wp2_with (go_at_call 54; refine (HG.out _ _).mono ?_; rintro e w' ⟨rfl, rfl⟩)
    refine wp_loop_rounds 5 ?_
    rw [rounds_succ]
    go_wp2
    rw [rounds_succ]
    go_wp2
    rw [rounds_succ]
    go_wp2
    rw [rounds_succ]
    go_wp2
    go_ret
    exact ⟨by rw [HX.out]; simp [inR, *], HB.out _⟩
  | false =>
    go_enter Try.func28, Try.ntmps28
    go_wp2_with fail
    refine wp_loop_rounds 4 ?_
    rw [rounds_succ]
    go_wp2_with (go_at_call 54; refine (HG.out _ _).mono ?_; rintro e w' ⟨rfl, rfl⟩)
    rw [rounds_succ]
    go_wp2_with (go_at_call 54; refine (HG.out _ _).mono ?_; rintro e w' ⟨rfl, rfl⟩)
    rw [rounds_succ]
    go_wp2_with (go_at_call 54; refine (HG.out _ _).mono ?_; rintro e w' ⟨rfl, rfl⟩)
    rw [rounds_succ]
    go_wp2_with (go_at_call 54; refine (HG.out _ _).mono ?_; rintro e w' ⟨rfl, rfl⟩)
    refine wp_loop_rounds 5 ?_
    rw [rounds_succ]
    go_wp2
    rw [rounds_succ]
    go_wp2
    rw [rounds_succ]
    go_wp2
    rw [rounds_succ]
    go_wp2
    rw [rounds_succ]
    go_wp2
    all_goals (go_ret; exact ⟨by rw [HX.out]; first | (simp_all [inR]; done) | (simp_all [inR]; omega), HB.out _⟩)

end Go.Proofs.Ytgnnnjabgoadaaa
