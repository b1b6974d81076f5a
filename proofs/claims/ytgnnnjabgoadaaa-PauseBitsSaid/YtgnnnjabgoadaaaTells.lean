/- What is proved here: the walk of the law PauseTells: it returns true, and changes nothing that was there. -/
import Derived.Test.YtgnnnjabgoadaaaRGood
import Derived.Test.YtgnnnjabgoadaaaRBit
import Derived.Test.YtgnnnjabgoadaaaWho
import Derived.Test.YtgnnnjabgoadaaaPaused
namespace Go.Proofs.Ytgnnnjabgoadaaa
open Go.RowKit

/-- The settings' box stands. -/
def BoxAt (w : World) (f0 f1 f2 f3 f4 f5 f6 : Int) (w1 : World) : Prop := Below w.heap.size w w1 ∧ w1.heap[w.heap.size]? = some (.cells #[.int .i64 f0, .int .i64 f1, .int .i64 f2, .int .i64 f3, .int .i64 f4, .int .i64 f5, .int .i64 f6] 52 (0, 0))

theorem BoxAt.cells {w w1 : World} {f0 f1 f2 f3 f4 f5 f6 : Int} (h : BoxAt w f0 f1 f2 f3 f4 f5 f6 w1) :
    w1.cell? ⟨w.heap.size, 0, none⟩ = some (.int .i64 f0) ∧ w1.cell? ⟨w.heap.size, 1, none⟩ = some (.int .i64 f1) ∧ w1.cell? ⟨w.heap.size, 2, none⟩ = some (.int .i64 f2) ∧ w1.cell? ⟨w.heap.size, 3, none⟩ = some (.int .i64 f3) ∧ w1.cell? ⟨w.heap.size, 4, none⟩ = some (.int .i64 f4) ∧ w1.cell? ⟨w.heap.size, 5, none⟩ = some (.int .i64 f5) ∧ w1.cell? ⟨w.heap.size, 6, none⟩ = some (.int .i64 f6) := by
  refine ⟨?_, ?_, ?_, ?_, ?_, ?_, ?_⟩ <;> (rw [cell_of_row _ _ _ _ _ _ h.2]; rfl)

theorem BoxAt.next {w w1 w2 : World} {f0 f1 f2 f3 f4 f5 f6 : Int} (h : BoxAt w f0 f1 f2 f3 f4 f5 f6 w1) (hb : Below w1.heap.size w1 w2) : BoxAt w f0 f1 f2 f3 f4 f5 f6 w2 :=
  ⟨h.1.trans (hb.mono h.1.size), by rw [hb.block _ (lt_of_at h.2)]; exact h.2⟩

theorem boxAt_calls {w : World} {f0 f1 f2 f3 f4 f5 f6 : Int} {F : FuncId} {args : Array Value} {v : Value} (hc : ∀ w1, Calls Try.prog F args w1 fun e w' => e = .returned v ∧ Below w1.heap.size w1 w') :
    Hid (∀ w1, BoxAt w f0 f1 f2 f3 f4 f5 f6 w1 → Calls Try.prog F args w1 fun e w' => e = .returned v ∧ BoxAt w f0 f1 f2 f3 f4 f5 f6 w') :=
  fun w1 h => (hc w1).mono fun _ _ ⟨he, hb⟩ => ⟨he, h.next hb⟩

set_option maxRecDepth 100000 in
set_option maxHeartbeats 4000000 in
theorem tells_walk (f0 f1 f2 f3 f4 f5 f6 i j : Int) (w : World) : Calls Try.prog 8 #[.agg #[.int .i64 f0, .int .i64 f1, .int .i64 f2, .int .i64 f3, .int .i64 f4, .int .i64 f5, .int .i64 f6], .int .i64 i, .int .i64 j] w fun e w' => e = .returned (.bool true) ∧ Below w.heap.size w w' := by
  have HG := boxAt_calls (w := w) (f0 := f0) (f1 := f1) (f2 := f2) (f3 := f3) (f4 := f4) (f5 := f5) (f6 := f6) (good_any f0 f1 f2 f3 f4 f5 f6)
  have HRG := boxAt_calls (w := w) (f0 := f0) (f1 := f1) (f2 := f2) (f3 := f3) (f4 := f4) (f5 := f5) (f6 := f6) (rgood_any f0 f1 f2 f3 f4 f5 f6)
  have HM := boxAt_calls (w := w) (f0 := f0) (f1 := f1) (f2 := f2) (f3 := f3) (f4 := f4) (f5 := f5) (f6 := f6) (may_any f0 f1 f2 f3 f4 f5 f6 i j)
  have HRM := boxAt_calls (w := w) (f0 := f0) (f1 := f1) (f2 := f2) (f3 := f3) (f4 := f4) (f5 := f5) (f6 := f6) (rmay_any f0 f1 f2 f3 f4 f5 f6 i j)
  have HT := boxAt_calls (w := w) (f0 := f0) (f1 := f1) (f2 := f2) (f3 := f3) (f4 := f4) (f5 := f5) (f6 := f6) (bit_any i)
  have HRT := boxAt_calls (w := w) (f0 := f0) (f1 := f1) (f2 := f2) (f3 := f3) (f4 := f4) (f5 := f5) (f6 := f6) (rbit_any i)
  have HW := Lib.hid (fun w => who_any i w)
  have HRW := Lib.hid (fun w => rwho_any i w)
  have HL := boxAt_calls (w := w) (f0 := f0) (f1 := f1) (f2 := f2) (f3 := f3) (f4 := f4) (f5 := f5) (f6 := f6) lives35
  have HB : Hid (BoxAt w f0 f1 f2 f3 f4 f5 f6 (w.alloc (.cells #[.int .i64 f0, .int .i64 f1, .int .i64 f2, .int .i64 f3, .int .i64 f4, .int .i64 f5, .int .i64 f6] 52))) := ⟨(Below.refl _ w).alloc (Nat.le_refl _) _, heap_alloc_new w _⟩
  generalize goodOf f0 f1 f2 f3 f4 f5 f6 = g at *
  generalize mayOf f0 f1 f2 i j = m at *
  generalize bitOf i = b at *
  generalize whoOf i = c at *
  go_enter Try.func8, Try.ntmps8
  go_wp2_with fail
  generalize w.alloc (.cells #[.int .i64 f0, .int .i64 f1, .int .i64 f2, .int .i64 f3, .int .i64 f4, .int .i64 f5, .int .i64 f6] 52) = w0 at *
  have hT := HB.out
  have hD : BoxAt w f0 f1 f2 f3 f4 f5 f6 w0.drew := ⟨⟨hT.1.os, hT.1.tape, hT.1.output, hT.1.size, hT.1.block⟩, hT.2⟩
  have HT0 := Lib.hid hD
  obtain ⟨c0, c1, c2, c3, c4, c5, c6⟩ := hT.cells
  clear hT hD HB
  go_region_held3 (fun w' => w'.cell? ⟨w.heap.size, 0, none⟩ = some (.int .i64 f0) ∧ w'.cell? ⟨w.heap.size, 1, none⟩ = some (.int .i64 f1) ∧ w'.cell? ⟨w.heap.size, 2, none⟩ = some (.int .i64 f2) ∧ w'.cell? ⟨w.heap.size, 3, none⟩ = some (.int .i64 f3) ∧ w'.cell? ⟨w.heap.size, 4, none⟩ = some (.int .i64 f4) ∧ w'.cell? ⟨w.heap.size, 5, none⟩ = some (.int .i64 f5) ∧ w'.cell? ⟨w.heap.size, 6, none⟩ = some (.int .i64 f6))
    (go_keep)
    (first
      | (go_at_call 28; refine (HG.out _ HT0.out).mono ?_; rintro e w1 ⟨rfl, hT1⟩; obtain ⟨c0, c1, c2, c3, c4, c5, c6⟩ := hT1.cells; have HT1 := Lib.hid hT1; clear hT1)
      | (go_at_call 29; refine (HRG.out _ HT1.out).mono ?_; rintro e w2 ⟨rfl, hT2⟩; obtain ⟨c0, c1, c2, c3, c4, c5, c6⟩ := hT2.cells; have HT2 := Lib.hid hT2; clear hT2)
      | (go_at_call 22; refine (HT.out _ HT2.out).mono ?_; rintro e w3 ⟨rfl, hT3⟩; obtain ⟨c0, c1, c2, c3, c4, c5, c6⟩ := hT3.cells; have HT3 := Lib.hid hT3; clear hT3)
      | (go_at_call 30; refine (HRT.out _ HT3.out).mono ?_; rintro e w4 ⟨rfl, hT4⟩; obtain ⟨c0, c1, c2, c3, c4, c5, c6⟩ := hT4.cells; have HT4 := Lib.hid hT4; clear hT4)
      | (go_at_call 23; refine (HW.out _).mono ?_; rintro e w' ⟨rfl, rfl⟩)
      | (go_at_call 31; refine (HRW.out _).mono ?_; rintro e w' ⟨rfl, rfl⟩)
      | (go_at_call 24; refine (HM.out _ HT4.out).mono ?_; rintro e w5 ⟨rfl, hT5⟩; obtain ⟨c0, c1, c2, c3, c4, c5, c6⟩ := hT5.cells; have HT5 := Lib.hid hT5; clear hT5)
      | (go_at_call 32; refine (HRM.out _ HT5.out).mono ?_; rintro e w6 ⟨rfl, hT6⟩; obtain ⟨c0, c1, c2, c3, c4, c5, c6⟩ := hT6.cells; have HT6 := Lib.hid hT6; clear hT6)
      | (go_at_call 12; refine (HL.out _ HT6.out).mono ?_; rintro e w7 ⟨rfl, hT7⟩; obtain ⟨c0, c1, c2, c3, c4, c5, c6⟩ := hT7.cells; have HT7 := Lib.hid hT7; clear hT7))
  go_wp2
  go_ret
  exact ⟨rfl, HT7.out.1⟩

end Go.Proofs.Ytgnnnjabgoadaaa
