/- What is proved here: the walk of the law PauseNone: it returns true, and changes nothing that was there. -/
import Derived.Test.YtgnnnjabgoadaaaPaused
namespace Go.Proofs.Ytgnnnjabgoadaaa
open Go.RowKit

theorem index_none (a : Nat) (w : World) : (Instr.index 28 (.agg #[.pointer none, .pointer (some ⟨a, 0, none⟩)]) (.int .i64 0)).run Try.prog w = .ok (.pointer none) w := by kernel_rfl
theorem index_some (a : Nat) (w : World) : (Instr.index 28 (.agg #[.pointer none, .pointer (some ⟨a, 0, none⟩)]) (.int .i64 1)).run Try.prog w = .ok (.pointer (some ⟨a, 0, none⟩)) w := by kernel_rfl
theorem NoStore.nil (w : World) : NoStore w none := .inl rfl

set_option maxRecDepth 100000 in
set_option maxHeartbeats 1000000 in
theorem none_walk (i j : Int) (w : World) : Calls Try.prog 3 #[.int .i64 i, .int .i64 j] w fun e w' => e = .returned (.bool true) ∧ Below w.heap.size w w' := by
  have HS : Hid (∀ w1 q, NoStore w1 q → Calls Try.prog 9 #[.pointer q, .int .i64 i] w1 fun e w' => e = .returned (.int .i64 1) ∧ w1 = w') := fun w1 q h => pset_not w1 q i h
  have HP : Hid (∀ w0 w1 q, NoStore w1 q → Below w0.heap.size w0 w1 → Calls Try.prog 11 #[.pointer q, .int .i64 j] w1 fun e w' => e = .returned (.bool false) ∧ Below w0.heap.size w0 w' ∧ ∀ q', NoStore w1 q' → NoStore w' q') := fun w0 w1 q h h1 => (paused_not w1 q j h).mono fun e w' h2 => ⟨h2.1, h1.trans (h2.2.mono h1.size), fun q' h' => h'.below h2.2⟩
  have HF : Hid (∀ w0 w1 q, NoStore w1 q → Below w0.heap.size w0 w1 → Calls Try.prog 10 #[.pointer q] w1 fun e w' => e = .returned (.int .i64 0) ∧ Below w0.heap.size w0 w' ∧ ∀ q', NoStore w1 q' → NoStore w' q') := fun w0 w1 q h h1 => (flags_not w1 q h).mono fun e w' h2 => ⟨h2.1, h1.trans (h2.2.mono h1.size), fun q' h' => h'.below h2.2⟩
  have hI0 := index_none
  have hI1 := index_some
  have hW0 : Hid (∀ a b c, Below w.heap.size w (w.alloc (.cells #[.bool false, a, b, c] 26)) ∧ NoStore (w.alloc (.cells #[.bool false, a, b, c] 26)) (some ⟨w.heap.size, 0, none⟩)) := fun a b c => ⟨(Below.refl _ w).alloc (Nat.le_refl _) _, .inr ⟨_, rfl, by simp, by rw [cell_of_row _ _ _ _ _ _ (heap_alloc_new w _)]; rfl⟩⟩
  go_enter Try.func3, Try.ntmps3
  go_wp2_with fail
  obtain ⟨hb0, hn0⟩ := hW0.out (.map none) (.slice none 0 0) (.slice none 0 0)
  have HB0 := Lib.hid hb0
  have HN0 := Lib.hid hn0
  clear hb0 hn0 hW0
  generalize w.alloc (.cells #[.bool false, .map none, .slice none 0 0, .slice none 0 0] 26) = w0 at *
  refine wp_loop_rounds 3 ?_
  rw [rounds_succ]
  go_wp2_with fail
  refine (HS.out w0 none (NoStore.nil w0)).mono ?_
  rintro e w' ⟨rfl, rfl⟩
  go_wp2_with fail
  refine (HF.out w w0 none (NoStore.nil w0) HB0.out).mono ?_
  rintro e w1 ⟨rfl, hb1, hn1⟩
  have HB1 := Lib.hid hb1
  have HN1 := Lib.hid (hn1 _ HN0.out)
  clear hb1 hn1 HB0 HN0
  go_wp2_with fail
  refine (HP.out w w1 none (NoStore.nil w1) HB1.out).mono ?_
  rintro e w2 ⟨rfl, hb1, hn1⟩
  have HB2 := Lib.hid hb1
  have HN2 := Lib.hid (hn1 _ HN1.out)
  clear hb1 hn1 HB1 HN1
  go_wp2_with fail
  rw [rounds_succ]
  go_wp2_with fail
  refine (HS.out w2 _ HN2.out).mono ?_
  rintro e w' ⟨rfl, rfl⟩
  go_wp2_with fail
  refine (HF.out w w2 _ HN2.out HB2.out).mono ?_
  rintro e w3 ⟨rfl, hb1, hn1⟩
  have HB3 := Lib.hid hb1
  have HN3 := Lib.hid (hn1 _ HN2.out)
  clear hb1 hn1 HB2 HN2
  go_wp2_with fail
  refine (HP.out w w3 _ HN3.out HB3.out).mono ?_
  rintro e w4 ⟨rfl, hb1, hn1⟩
  have HL := Lib.hid (lives35 w4)
  clear hn1 HB3 HN3
  go_wp2_with fail
  rw [rounds_succ]
  go_wp2_with (go_at_call 12; refine HL.out.mono ?_; rintro e w5 ⟨rfl, hb5⟩)
  go_ret
  exact ⟨rfl, hb1.trans (hb5.mono hb1.size)⟩

end Go.Proofs.Ytgnnnjabgoadaaa
