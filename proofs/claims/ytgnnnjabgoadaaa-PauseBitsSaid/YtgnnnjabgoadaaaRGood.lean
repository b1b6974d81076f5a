/- What is proved here: the reference's own pause.Good: which settings may be. -/
import Derived.Test.YtgnnnjabgoadaaaGood
namespace Go.Proofs.Ytgnnnjabgoadaaa
open Go.RowKit

/-- The first k of three numbers are accounts. -/
def AccTo (a b c : Int) (k : Nat) : Prop := k ≤ 3 ∧ (0 < k → isB a = true) ∧ (1 < k → isB b = true) ∧ (2 < k → isB c = true)
/-- The first k of four numbers are in range. -/
def RanTo (a b c d : Int) (k : Nat) : Prop := k ≤ 4 ∧ (0 < k → inR a = true) ∧ (1 < k → inR b = true) ∧ (2 < k → inR c = true) ∧ (3 < k → inR d = true)

theorem two_lo {a b : Int} (h : a < 1) : (decide (1 ≤ a) && decide (1 ≤ b)) = false := by
  have hn : ¬ (1 ≤ a) := by omega
  simp [hn]
theorem two_hi {a b : Int} (h : 1 ≤ a) : (decide (1 ≤ a) && decide (1 ≤ b)) = decide (1 ≤ b) := by simp [h]
theorem inR_false_lo {x : Int} (h : decide (x < 0) = true) : inR x = false := by unfold inR; simp [h]
theorem inR_false_hi {x : Int} (h : decide (1000000 < x) = true) : inR x = false := by unfold inR; simp [h]
theorem inR_true {x : Int} (h : decide (x < 0) = false) (h1 : decide (1000000 < x) = false) : inR x = true := by unfold inR; simp [h, h1]

set_option maxRecDepth 100000 in
set_option maxHeartbeats 4000000 in
theorem rgood_any (f0 f1 f2 f3 f4 f5 f6 : Int) (w : World) : Calls Try.prog 29 #[.agg #[.int .i64 f0, .int .i64 f1, .int .i64 f2, .int .i64 f3, .int .i64 f4, .int .i64 f5, .int .i64 f6]] w fun e w' => e = .returned (.bool (goodOf f0 f1 f2 f3 f4 f5 f6)) ∧ Below w.heap.size w w' := by
  have HG := Lib.hid (fun (x : Int) (w : World) => ris_any x w)
  have HB : Hid (∀ o, Below w.heap.size w (w.alloc o)) := fun o => (Below.refl _ w).alloc (Nat.le_refl _) o
  have HX : Hid (goodOf f0 f1 f2 f3 f4 f5 f6 = (isB f0 && isB f1 && isB f2 && inR f3 && inR f4 && inR f5 && inR f6 && (decide (0 < f3) && decide (0 < f4)))) := rfl
  have HR : ∀ (x : Int), Hid ((decide (x < 0) = true → inR x = false) ∧ (decide (1000000 < x) = true → inR x = false) ∧ (decide (x < 0) = false → decide (1000000 < x) = false → inR x = true)) := fun x => ⟨inR_false_lo, inR_false_hi, inR_true⟩
  have h31 := fun w => (idx3 f0 f1 f2 w).1
  have h32 := fun w => (idx3 f0 f1 f2 w).2.1
  have h33 := fun w => (idx3 f0 f1 f2 w).2.2
  have h41 := fun w => (idx4 f3 f4 f5 f6 w).1
  have h42 := fun w => (idx4 f3 f4 f5 f6 w).2.1
  have h43 := fun w => (idx4 f3 f4 f5 f6 w).2.2.1
  have h44 := fun w => (idx4 f3 f4 f5 f6 w).2.2.2
  generalize goodOf f0 f1 f2 f3 f4 f5 f6 = r at *
  go_enter Try.func29, Try.ntmps29
  go_wp2_with fail
  go_loop [14] (fun c => ∃ k : Nat, c = .int .i64 k ∧ AccTo f0 f1 f2 k) (fun c => 3 - (intOf c).toNat)
  case atStart => exact ⟨0, rfl, by omega, by omega, by omega, by omega⟩
  case round =>
    obtain ⟨k, rfl, hk⟩ := hrel
    have HK := Lib.hid hk
    rcases (by have := hk.1; omega : k = 0 ∨ k = 1 ∨ k = 2 ∨ k = 3) with rfl | rfl | rfl | rfl
    · clear hk
      cases hb : isB f0 with
      | false =>
        go_wp2_with (go_at_call 55; refine (HG.out _ _).mono ?_; rintro e w' ⟨rfl, rfl⟩)
        go_ret
        exact ⟨by rw [HX.out]; simp [hb], HB.out _⟩
      | true =>
        go_wp2_with (go_at_call 55; refine (HG.out _ _).mono ?_; rintro e w' ⟨rfl, rfl⟩)
        go_round
        case rel => exact ⟨1, by go_num, by omega, fun _ => hb, by omega, by omega⟩
        case measure => simp [intOf]
    · clear hk
      cases hb : isB f1 with
      | false =>
        go_wp2_with (go_at_call 55; refine (HG.out _ _).mono ?_; rintro e w' ⟨rfl, rfl⟩)
        go_ret
        exact ⟨by rw [HX.out]; simp [hb], HB.out _⟩
      | true =>
        go_wp2_with (go_at_call 55; refine (HG.out _ _).mono ?_; rintro e w' ⟨rfl, rfl⟩)
        go_round
        case rel => exact ⟨2, by go_num, by omega, fun _ => HK.out.2.1 (by omega), fun _ => hb, by omega⟩
        case measure => simp [intOf]
    · clear hk
      cases hb : isB f2 with
      | false =>
        go_wp2_with (go_at_call 55; refine (HG.out _ _).mono ?_; rintro e w' ⟨rfl, rfl⟩)
        go_ret
        exact ⟨by rw [HX.out]; simp [hb], HB.out _⟩
      | true =>
        go_wp2_with (go_at_call 55; refine (HG.out _ _).mono ?_; rintro e w' ⟨rfl, rfl⟩)
        go_round
        case rel => exact ⟨3, by go_num, by omega, fun _ => HK.out.2.1 (by omega), fun _ => HK.out.2.2.1 (by omega), fun _ => hb⟩
        case measure => simp [intOf]
    · have HX2 : Hid (r = (inR f3 && inR f4 && inR f5 && inR f6 && (decide (0 < f3) && decide (0 < f4)))) := by
        show _ = _
        rw [HX.out, hk.2.1 (by omega), hk.2.2.1 (by omega), hk.2.2.2 (by omega)]; simp
      clear hk HK HX
      go_wp2_with fail
      go_loop [30] (fun c => ∃ k : Nat, c = .int .i64 k ∧ RanTo f3 f4 f5 f6 k) (fun c => 4 - (intOf c).toNat)
      case atStart => exact ⟨0, rfl, by omega, by omega, by omega, by omega, by omega⟩
      case round =>
        obtain ⟨k, rfl, hk⟩ := hrel
        have HK := Lib.hid hk
        rcases (by have := hk.1; omega : k = 0 ∨ k = 1 ∨ k = 2 ∨ k = 3 ∨ k = 4) with rfl | rfl | rfl | rfl | rfl
        · clear hk
          cases n0 : decide (f3 < 0) with
          | true =>
            go_wp2
            go_ret
            exact ⟨by rw [HX2.out, (HR f3).out.1 n0]; simp, HB.out _⟩
          | false =>
            cases n1 : decide (1000000 < f3) with
            | true =>
              go_wp2
              go_ret
              exact ⟨by rw [HX2.out, (HR f3).out.2.1 n1]; simp, HB.out _⟩
            | false =>
              go_wp2
              go_round
              case rel => exact ⟨1, by go_num, by omega, fun _ => (HR f3).out.2.2 n0 n1, by omega, by omega, by omega⟩
              case measure => simp [intOf]
        · clear hk
          cases n0 : decide (f4 < 0) with
          | true =>
            go_wp2
            go_ret
            exact ⟨by rw [HX2.out, (HR f4).out.1 n0]; simp, HB.out _⟩
          | false =>
            cases n1 : decide (1000000 < f4) with
            | true =>
              go_wp2
              go_ret
              exact ⟨by rw [HX2.out, (HR f4).out.2.1 n1]; simp, HB.out _⟩
            | false =>
              go_wp2
              go_round
              case rel => exact ⟨2, by go_num, by omega, fun _ => HK.out.2.1 (by omega), fun _ => (HR f4).out.2.2 n0 n1, by omega, by omega⟩
              case measure => simp [intOf]
        · clear hk
          cases n0 : decide (f5 < 0) with
          | true =>
            go_wp2
            go_ret
            exact ⟨by rw [HX2.out, (HR f5).out.1 n0]; simp, HB.out _⟩
          | false =>
            cases n1 : decide (1000000 < f5) with
            | true =>
              go_wp2
              go_ret
              exact ⟨by rw [HX2.out, (HR f5).out.2.1 n1]; simp, HB.out _⟩
            | false =>
              go_wp2
              go_round
              case rel => exact ⟨3, by go_num, by omega, fun _ => HK.out.2.1 (by omega), fun _ => HK.out.2.2.1 (by omega), fun _ => (HR f5).out.2.2 n0 n1, by omega⟩
              case measure => simp [intOf]
        · clear hk
          cases n0 : decide (f6 < 0) with
          | true =>
            go_wp2
            go_ret
            exact ⟨by rw [HX2.out, (HR f6).out.1 n0]; simp, HB.out _⟩
          | false =>
            cases n1 : decide (1000000 < f6) with
            | true =>
              go_wp2
              go_ret
              exact ⟨by rw [HX2.out, (HR f6).out.2.1 n1]; simp, HB.out _⟩
            | false =>
              go_wp2
              go_round
              case rel => exact ⟨4, by go_num, by omega, fun _ => HK.out.2.1 (by omega), fun _ => HK.out.2.2.1 (by omega), fun _ => HK.out.2.2.2.1 (by omega), fun _ => (HR f6).out.2.2 n0 n1⟩
              case measure => simp [intOf]
        · have HX3 : Hid (r = (decide (1 ≤ f3) && decide (1 ≤ f4))) := by
            show _ = _
            have e : ∀ x : Int, decide (0 < x) = decide (1 ≤ x) := fun x => by rw [decide_eq_decide]; omega
            rw [← e, ← e]
            rw [HX2.out, hk.2.1 (by omega), hk.2.2.1 (by omega), hk.2.2.2.1 (by omega), hk.2.2.2.2 (by omega)]; simp
          clear hk HK HX2
          go_wp2
          all_goals (go_ret; refine ⟨?_, HB.out _⟩; rw [HX3.out]; first | (rw [two_lo (by omega)]; rfl) | (rw [two_hi (by omega)]; rfl))

end Go.Proofs.Ytgnnnjabgoadaaa
