/- What is proved here: pause.Who, pause.May and the reference's own. -/
import Derived.Test.YtgnnnjabgoadaaaStore
namespace Go.Proofs.Ytgnnnjabgoadaaa
open Go.RowKit

def whoOf (c : Int) : Int := if c = 1 then 1 else if c = 3 then 1 else if c = 4 then 1 else if c = 2 then 2 else if c = 24 then 3 else if c = 25 then 3 else 0

set_option maxRecDepth 100000 in
set_option maxHeartbeats 1000000 in
theorem who_any (c : Int) (w : World) : Calls Try.prog 23 #[.int .i64 c] w fun e w' => e = .returned (.int .i64 (whoOf c)) ∧ w = w' := by
  have e : ∀ k : Int, (c == k) = decide (c = k) := fun k => by by_cases h : c = k <;> simp [h]
  have HX : Hid (whoOf c = if c = 1 then 1 else if c = 3 then 1 else if c = 4 then 1 else if c = 2 then 2 else if c = 24 then 3 else if c = 25 then 3 else 0) := rfl
  generalize whoOf c = r at *
  go_enter Try.func23, Try.ntmps23
  go_wp2
  all_goals (go_ret; refine ⟨?_, rfl⟩; rw [HX.out]; simp_all)

set_option maxRecDepth 100000 in
set_option maxHeartbeats 1000000 in
theorem rwho_any (c : Int) (w : World) : Calls Try.prog 31 #[.int .i64 c] w fun e w' => e = .returned (.int .i64 (whoOf c)) ∧ w = w' := by
  have e : ∀ k : Int, (c == k) = decide (c = k) := fun k => by by_cases h : c = k <;> simp [h]
  have HX : Hid (whoOf c = if c = 1 then 1 else if c = 3 then 1 else if c = 4 then 1 else if c = 2 then 2 else if c = 24 then 3 else if c = 25 then 3 else 0) := rfl
  generalize whoOf c = r at *
  go_enter Try.func31, Try.ntmps31
  go_wp2
  all_goals (go_ret; refine ⟨?_, rfl⟩; rw [HX.out]; simp_all)


/-- Who may do what: the rule's seven numbers are f. -/
def mayOf (f0 f1 f2 c who : Int) : Bool := if whoOf c = 1 then who == f0 else if whoOf c = 2 then who == f1 else if whoOf c = 3 then who == f2 else true

set_option maxRecDepth 100000 in
set_option maxHeartbeats 1000000 in
theorem may_any (f0 f1 f2 f3 f4 f5 f6 c who : Int) (w : World) : Calls Try.prog 24 #[.agg #[.int .i64 f0, .int .i64 f1, .int .i64 f2, .int .i64 f3, .int .i64 f4, .int .i64 f5, .int .i64 f6], .int .i64 c, .int .i64 who] w fun e w' => e = .returned (.bool (mayOf f0 f1 f2 c who)) ∧ Below w.heap.size w w' := by
  have HW := Lib.hid (fun w => who_any c w)
  have HB : Hid (∀ o, Below w.heap.size w (w.alloc o)) := fun o => (Below.refl _ w).alloc (Nat.le_refl _) o
  have HX : Hid (mayOf f0 f1 f2 c who = if whoOf c = 1 then who == f0 else if whoOf c = 2 then who == f1 else if whoOf c = 3 then who == f2 else true) := rfl
  generalize mayOf f0 f1 f2 c who = r at *
  generalize whoOf c = x at *
  go_enter Try.func24, Try.ntmps24
  go_wp2_with (go_at_call 23; refine (HW.out _).mono ?_; rintro e w' ⟨rfl, rfl⟩)
  all_goals (go_ret; refine ⟨?_, HB.out _⟩; rw [HX.out]; simp_all)

set_option maxRecDepth 100000 in
set_option maxHeartbeats 1000000 in
theorem rmay_any (f0 f1 f2 f3 f4 f5 f6 c who : Int) (w : World) : Calls Try.prog 32 #[.agg #[.int .i64 f0, .int .i64 f1, .int .i64 f2, .int .i64 f3, .int .i64 f4, .int .i64 f5, .int .i64 f6], .int .i64 c, .int .i64 who] w fun e w' => e = .returned (.bool (mayOf f0 f1 f2 c who)) ∧ Below w.heap.size w w' := by
  have HW := Lib.hid (fun w => rwho_any c w)
  have HB : Hid (∀ o, Below w.heap.size w (w.alloc o)) := fun o => (Below.refl _ w).alloc (Nat.le_refl _) o
  have HX : Hid (mayOf f0 f1 f2 c who = if whoOf c = 1 then who == f0 else if whoOf c = 2 then who == f1 else if whoOf c = 3 then who == f2 else true) := rfl
  generalize mayOf f0 f1 f2 c who = r at *
  generalize whoOf c = x at *
  go_enter Try.func32, Try.ntmps32
  go_wp2_with (go_at_call 31; refine (HW.out _).mono ?_; rintro e w' ⟨rfl, rfl⟩)
  all_goals (go_ret; refine ⟨?_, HB.out _⟩; rw [HX.out]; simp_all)

end Go.Proofs.Ytgnnnjabgoadaaa
