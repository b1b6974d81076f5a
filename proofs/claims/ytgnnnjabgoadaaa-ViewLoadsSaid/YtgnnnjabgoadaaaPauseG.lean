/- What is proved here: pause.Set, Flags, Paused and the reference's own, over whatever stores. Their condition: fewer than 10^12 entries and changes, values shorter than 10^6. -/
import Derived.Test.YtgnnnjabgoadaaaFit
import Derived.Test.YtgnnnjabgoadaaaRCell
import Derived.Test.YtgnnnjabgoadaaaKeyG
import Derived.Test.YtgnnnjabgoadaaaRKey
import Derived.Test.YtgnnnjabgoadaaaRBit
import Derived.Test.YtgnnnjabgoadaaaPause
namespace Go.Proofs.Ytgnnnjabgoadaaa
open Go.RowKit

def K42 : ByteArray := keyL 42 []
theorem K42_ne : K42 ≠ emptyB := fun h => absurd (congrArg ByteArray.size h) (by decide)
theorem K42_eq : K42 = key1 42 := rfl
def pauseSet (s : St) (n : Int) : Int × St := if n < 0 ∨ 255 < n then (5, s) else (0, s.setInt K42 n)
def pausedOf (i : Int) (f : Nat) : Bool := bits BinOp.and IntKind.i64 (bitOf i) (f : Int) != 0

theorem key42 (w : World) : Calls Try.prog 35 #[.int .i64 42, .slice none 0 0] w fun e w' => e = .returned (.string K42) ∧ Below w.heap.size w w' :=
  key_any 42 (by omega) (by omega) _ [] w (.inl ⟨rfl, rfl⟩) (by simp) (by simp)
theorem rkey42 (w : World) : Calls Try.prog 52 #[.int .i64 42, .slice none 0 0] w fun e w' => e = .returned (.string K42) ∧ Below w.heap.size w w' :=
  rkey_any 42 (by omega) (by omega) _ [] w (.inl ⟨rfl, rfl⟩) (by simp) (by simp)

theorem SRep.below {w w' : World} {b : Nat} {s : St} {L : List Nat} (h : SRep w b s L) (hb : Below w.heap.size w w') : SRep w' b s L :=
  h.frame fun k hk => hb.block k (h.lt k hk)

theorem RetInt.of_below {w w1 : World} {n : Int} {e : Ending} {w' : World} (hb : Below w.heap.size w w1) (h : RetInt w1 n e w') : RetInt w n e w' := ⟨h.1, hb.trans (h.2.mono hb.size)⟩

set_option maxRecDepth 100000 in
set_option maxHeartbeats 1000000 in
theorem psetG_any (w : World) (b : Nat) (s : St) (L : List Nat) (n : Int) (h : SRep w b s L) (hb : s.size < 1000000000000) :
    Calls Try.prog 9 #[.pointer (some ⟨b, 0, none⟩), .int .i64 n] w (RetSt w b L (.int .i64 (pauseSet s n).1) (pauseSet s n).2) := by
  have HM := Lib.hid (made_at w b true h.cell0)
  have HK := Lib.hid (key42 w)
  by_cases h1 : n < 0 ∨ 255 < n
  · have e : pauseSet s n = (5, s) := by unfold pauseSet; rw [if_pos h1]
    rw [e]
    have HE : Hid (RetSt w b L (.int .i64 5) s (.returned (.int .i64 5)) w) := ⟨rfl, L, h, Step.refl w L⟩
    generalize RetSt w b L (.int .i64 5) s = R at *
    clear h hb e
    by_cases h2 : n < 0
    · have d1 : decide (n < 0) = true := by simpa using h2
      go_enter Try.func9, Try.ntmps9
      go_wp2_with (go_at_call 33; refine HM.out.mono ?_; rintro e w' ⟨rfl, rfl⟩)
      exact HE.out
    · have d1 : decide (n < 0) = false := by simpa using h2
      have d2 : decide (255 < n) = true := by simp; omega
      clear h1 h2
      go_enter Try.func9, Try.ntmps9
      go_wp2_with (go_at_call 33; refine HM.out.mono ?_; rintro e w' ⟨rfl, rfl⟩)
      exact HE.out
  · have e : pauseSet s n = (0, s.setInt K42 n) := by unfold pauseSet; rw [if_neg h1]
    rw [e]
    have HI : Hid (∀ w1, Below w.heap.size w w1 → Calls Try.prog 34 #[.pointer (some ⟨b, 0, none⟩), .string K42, .int .i64 n] w1 fun e w' => e = .returned (.tuple #[]) ∧ RetSt w b L (.int .i64 0) (s.setInt K42 n) (.returned (.int .i64 0)) w') := fun w1 hb1 =>
      (setIntG_any w1 b s L K42 n (by omega) (h.below hb1) hb).mono fun e w' h2 => ⟨h2.1, RetSt.of_below hb1 ⟨rfl, h2.2⟩⟩
    have d1 : decide (n < 0) = false := by simp; omega
    have d2 : decide (255 < n) = false := by simp; omega
    generalize RetSt w b L (.int .i64 0) (s.setInt K42 n) = R at *
    generalize K42 = kb at *
    clear h hb e h1
    go_enter Try.func9, Try.ntmps9
    go_wp2_with (first | (go_at_call 33; refine HM.out.mono ?_; rintro e w' ⟨rfl, rfl⟩) | (go_at_call 35; refine Calls.mono HK.out ?_; rintro e w1 ⟨rfl, h1⟩) | (go_at_call 34; refine (HI.out _ h1).mono ?_; rintro e w' ⟨rfl, hR⟩))
    exact hR

set_option maxRecDepth 100000 in
set_option maxHeartbeats 1000000 in
theorem rpset_any (w : World) (b : Nat) (s : St) (L : List Nat) (n : Int) (h : RRep w b s L) (hb : s.size < 1000000000000) :
    Calls Try.prog 25 #[.pointer (some ⟨b, 0, none⟩), .int .i64 n] w (RetR w b L (.int .i64 (pauseSet s n).1) (pauseSet s n).2) := by
  have HK := Lib.hid (rkey42 w)
  by_cases h1 : n < 0 ∨ 255 < n
  · have e : pauseSet s n = (5, s) := by unfold pauseSet; rw [if_pos h1]
    rw [e]
    have HE : Hid (RetR w b L (.int .i64 5) s (.returned (.int .i64 5)) w) := ⟨rfl, L, h, Step.refl w L⟩
    generalize RetR w b L (.int .i64 5) s = R at *
    clear h hb e
    by_cases h2 : n < 0
    · have d1 : decide (n < 0) = true := by simpa using h2
      go_enter Try.func25, Try.ntmps25
      go_wp2
      exact HE.out
    · have d1 : decide (n < 0) = false := by simpa using h2
      have d2 : decide (255 < n) = true := by simp; omega
      clear h1 h2
      go_enter Try.func25, Try.ntmps25
      go_wp2
      exact HE.out
  · have e : pauseSet s n = (0, s.setInt K42 n) := by unfold pauseSet; rw [if_neg h1]
    rw [e]
    have HI : Hid (∀ w1, Below w.heap.size w w1 → Calls Try.prog 51 #[.pointer (some ⟨b, 0, none⟩), .string K42, .int .i64 n] w1 fun e w' => e = .returned (.tuple #[]) ∧ RetR w b L (.int .i64 0) (s.setInt K42 n) (.returned (.int .i64 0)) w') := fun w1 hb1 =>
      (rsetInt_any w1 b s L K42 n (by omega) (h.below hb1) hb).mono fun e w' h2 => ⟨h2.1, RetR.of_below hb1 ⟨rfl, h2.2⟩⟩
    have d1 : decide (n < 0) = false := by simp; omega
    have d2 : decide (255 < n) = false := by simp; omega
    generalize RetR w b L (.int .i64 0) (s.setInt K42 n) = R at *
    generalize K42 = kb at *
    clear h hb e h1
    go_enter Try.func25, Try.ntmps25
    go_wp2_with (first | (go_at_call 52; refine Calls.mono HK.out ?_; rintro e w1 ⟨rfl, h1⟩) | (go_at_call 51; refine (HI.out _ h1).mono ?_; rintro e w' ⟨rfl, hR⟩))
    exact hR

set_option maxRecDepth 100000 in
set_option maxHeartbeats 1000000 in
theorem flagsG_any (w : World) (b : Nat) (s : St) (L : List Nat) (h : SRep w b s L) (hv : (s.val K42).size < 1000000000000) : Calls Try.prog 10 #[.pointer (some ⟨b, 0, none⟩)] w (RetInt w (s.int K42)) := by
  have HK := Lib.hid (key42 w)
  have HI : Hid (∀ w1, Below w.heap.size w w1 → Calls Try.prog 36 #[.pointer (some ⟨b, 0, none⟩), .string K42] w1 (RetInt w (s.int K42))) := fun w1 h1 => (int_at w1 b s L K42 (h.below h1) hv).mono fun e w' h2 => h2.of_below h1
  generalize s.int K42 = x at *
  generalize K42 = kb at *
  clear h
  go_enter Try.func10, Try.ntmps10
  go_wp2_with (first | (go_at_call 35; refine Calls.mono HK.out ?_; rintro e w1 ⟨rfl, h1⟩) | (go_at_call 36; refine (HI.out _ h1).mono ?_; rintro e w' ⟨rfl, h2⟩))
  go_ret
  exact ⟨rfl, h2⟩

set_option maxRecDepth 100000 in
set_option maxHeartbeats 1000000 in
theorem rflagsG_any (w : World) (b : Nat) (s : St) (L : List Nat) (h : RRep w b s L) (hv : (s.val K42).size < 1000000000000) (hb : s.size < 1000000000000) : Calls Try.prog 26 #[.pointer (some ⟨b, 0, none⟩)] w (RetInt w (s.int K42)) := by
  have HK := Lib.hid (rkey42 w)
  have HI : Hid (∀ w1, Below w.heap.size w w1 → Calls Try.prog 53 #[.pointer (some ⟨b, 0, none⟩), .string K42] w1 (RetInt w (s.int K42))) := fun w1 h1 => (rint_at w1 b s L K42 (h.below h1) hv hb).mono fun e w' h2 => h2.of_below h1
  generalize s.int K42 = x at *
  generalize K42 = kb at *
  clear h
  go_enter Try.func26, Try.ntmps26
  go_wp2_with (first | (go_at_call 52; refine Calls.mono HK.out ?_; rintro e w1 ⟨rfl, h1⟩) | (go_at_call 53; refine (HI.out _ h1).mono ?_; rintro e w' ⟨rfl, h2⟩))
  go_ret
  exact ⟨rfl, h2⟩

def RetBool (w : World) (r : Bool) (e : Ending) (w' : World) : Prop := e = .returned (.bool r) ∧ Below w.heap.size w w'

set_option maxRecDepth 100000 in
set_option maxHeartbeats 1000000 in
theorem pausedG_any (w : World) (b : Nat) (s : St) (L : List Nat) (i : Int) (h : SRep w b s L) (hv : (s.val K42).size < 1000000000000) : Calls Try.prog 11 #[.pointer (some ⟨b, 0, none⟩), .int .i64 i] w (RetBool w (pausedOf i (s.int K42))) := by
  have HB := Lib.hid (bit_any i w)
  have HF : Hid (∀ w1, Below w.heap.size w w1 → Calls Try.prog 10 #[.pointer (some ⟨b, 0, none⟩)] w1 (RetInt w (s.int K42))) := fun w1 h1 => (flagsG_any w1 b s L (h.below h1) hv).mono fun e w' h2 => h2.of_below h1
  unfold pausedOf
  generalize bitOf i = x at *
  generalize s.int K42 = y at *
  clear h hv
  go_enter Try.func11, Try.ntmps11
  go_wp2_with (first | (go_at_call 22; refine HB.out.mono ?_; rintro e w1 ⟨rfl, h1⟩) | (go_at_call 10; refine (HF.out _ h1).mono ?_; rintro e w' ⟨rfl, h2⟩))
  go_ret
  exact ⟨rfl, h2⟩

set_option maxRecDepth 100000 in
set_option maxHeartbeats 1000000 in
theorem rpausedG_any (w : World) (b : Nat) (s : St) (L : List Nat) (i : Int) (h : RRep w b s L) (hv : (s.val K42).size < 1000000000000) (hb : s.size < 1000000000000) : Calls Try.prog 27 #[.pointer (some ⟨b, 0, none⟩), .int .i64 i] w (RetBool w (pausedOf i (s.int K42))) := by
  have HB := Lib.hid (rbit_any i w)
  have HF : Hid (∀ w1, Below w.heap.size w w1 → Calls Try.prog 26 #[.pointer (some ⟨b, 0, none⟩)] w1 (RetInt w (s.int K42))) := fun w1 h1 => (rflagsG_any w1 b s L (h.below h1) hv hb).mono fun e w' h2 => h2.of_below h1
  unfold pausedOf
  generalize bitOf i = x at *
  generalize s.int K42 = y at *
  clear h hv
  go_enter Try.func27, Try.ntmps27
  go_wp2_with (first | (go_at_call 30; refine HB.out.mono ?_; rintro e w1 ⟨rfl, h1⟩) | (go_at_call 26; refine (HF.out _ h1).mono ?_; rintro e w' ⟨rfl, h2⟩))
  go_ret
  exact ⟨rfl, h2⟩
end Go.Proofs.Ytgnnnjabgoadaaa
