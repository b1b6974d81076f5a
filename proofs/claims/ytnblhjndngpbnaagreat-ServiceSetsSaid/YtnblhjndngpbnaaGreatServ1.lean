/- What is proved here: service.Is, Sets, There, Register, and the reference's own. Their conditions: numbers below 2^63, sizes; Register: a good account that is none yet. -/
import Derived.Test.YtnblhjndngpbnaaGreatVaultB
namespace Go.Proofs.YtnblhjndngpbnaaGreat
open Go.RowKit

def sIs (s : St) (a : Int) : Bool := s.int (keyL 21 [a]) == 1
def sSets (s : St) (a : Int) : Nat := s.int (keyL 22 [a])
def sThere (s : St) (a n : Int) : Bool := decide (0 ≤ n) && decide (n < (sSets s a : Int))

set_option maxRecDepth 100000 in
set_option maxHeartbeats 1000000 in
theorem sis_any (w : World) (b : Nat) (s : St) (L : List Nat) (m : Nat) (a : Int) (ha : a < 9223372036854775808) (h : SRep w b s L) (hf : s.Fit m) (hm : m < 100000000000) :
    Calls Tryz.prog 13 #[.pointer (some ⟨b, 0, none⟩), .int .i64 a] w (RetBool w (sIs s a)) := by
  have HK := Lib.hid (key_new1 21 (by omega) (by omega) a ha w)
  have HI := sint_below h hf hm (keyL 21 [a])
  unfold sIs
  have he : ((s.int (keyL 21 [a]) : Int) == 1) = (s.int (keyL 21 [a]) == 1) := by
    rw [Bool.eq_iff_iff, beq_iff_eq, beq_iff_eq]; omega
  generalize s.int (keyL 21 [a]) = x at *
  generalize keyL 21 [a] = k at *
  clear h hf hm
  go_enter Tryz.func13, Tryz.ntmps13
  go_wp2_with (first | (go_at_call 36; refine Calls.mono HK.out ?_; rintro e w1 ⟨rfl, h1⟩) | (go_at_call 41; refine (HI.out _ h1).mono ?_; rintro e w' ⟨rfl, h2⟩))
  go_ret
  exact ⟨rfl, h2⟩

set_option maxRecDepth 100000 in
set_option maxHeartbeats 1000000 in
theorem rsis_any (w : World) (b : Nat) (s : St) (L : List Nat) (m : Nat) (a : Int) (ha : a < 9223372036854775808) (h : RRep w b s L) (hf : s.Fit m) (hm : m < 100000000000) :
    Calls Tryz.prog 14 #[.pointer (some ⟨b, 0, none⟩), .int .i64 a] w (RetBool w (sIs s a)) := by
  have HK := Lib.hid (rkey_new1 21 (by omega) (by omega) a ha w)
  have HI := rsint_below h hf hm (keyL 21 [a])
  unfold sIs
  have he : ((s.int (keyL 21 [a]) : Int) == 1) = (s.int (keyL 21 [a]) == 1) := by
    rw [Bool.eq_iff_iff, beq_iff_eq, beq_iff_eq]; omega
  generalize s.int (keyL 21 [a]) = x at *
  generalize keyL 21 [a] = k at *
  clear h hf hm
  go_enter Tryz.func14, Tryz.ntmps14
  go_wp2_with (first | (go_at_call 44; refine Calls.mono HK.out ?_; rintro e w1 ⟨rfl, h1⟩) | (go_at_call 43; refine (HI.out _ h1).mono ?_; rintro e w' ⟨rfl, h2⟩))
  go_ret
  exact ⟨rfl, h2⟩

set_option maxRecDepth 100000 in
set_option maxHeartbeats 1000000 in
theorem ssets_any (w : World) (b : Nat) (s : St) (L : List Nat) (m : Nat) (a : Int) (ha : a < 9223372036854775808) (h : SRep w b s L) (hf : s.Fit m) (hm : m < 100000000000) :
    Calls Tryz.prog 17 #[.pointer (some ⟨b, 0, none⟩), .int .i64 a] w (RetInt w (sSets s a)) := by
  have HK := Lib.hid (key_new1 22 (by omega) (by omega) a ha w)
  have HI := sint_below h hf hm (keyL 22 [a])
  unfold sSets
  generalize s.int (keyL 22 [a]) = x at *
  generalize keyL 22 [a] = k at *
  clear h hf hm
  go_enter Tryz.func17, Tryz.ntmps17
  go_wp2_with (first | (go_at_call 36; refine Calls.mono HK.out ?_; rintro e w1 ⟨rfl, h1⟩) | (go_at_call 41; refine (HI.out _ h1).mono ?_; rintro e w' ⟨rfl, h2⟩))
  go_ret
  exact ⟨rfl, h2⟩

set_option maxRecDepth 100000 in
set_option maxHeartbeats 1000000 in
theorem rssets_any (w : World) (b : Nat) (s : St) (L : List Nat) (m : Nat) (a : Int) (ha : a < 9223372036854775808) (h : RRep w b s L) (hf : s.Fit m) (hm : m < 100000000000) :
    Calls Tryz.prog 18 #[.pointer (some ⟨b, 0, none⟩), .int .i64 a] w (RetInt w (sSets s a)) := by
  have HK := Lib.hid (rkey_new1 22 (by omega) (by omega) a ha w)
  have HI := rsint_below h hf hm (keyL 22 [a])
  unfold sSets
  generalize s.int (keyL 22 [a]) = x at *
  generalize keyL 22 [a] = k at *
  clear h hf hm
  go_enter Tryz.func18, Tryz.ntmps18
  go_wp2_with (first | (go_at_call 44; refine Calls.mono HK.out ?_; rintro e w1 ⟨rfl, h1⟩) | (go_at_call 43; refine (HI.out _ h1).mono ?_; rintro e w' ⟨rfl, h2⟩))
  go_ret
  exact ⟨rfl, h2⟩

set_option maxRecDepth 100000 in
set_option maxHeartbeats 1000000 in
theorem sthere_any (w : World) (b : Nat) (s : St) (L : List Nat) (m : Nat) (a n : Int) (ha : a < 9223372036854775808) (h : SRep w b s L) (hf : s.Fit m) (hm : m < 100000000000) :
    Calls Tryz.prog 10 #[.pointer (some ⟨b, 0, none⟩), .int .i64 a, .int .i64 n] w (RetBool w (sThere s a n)) := by
  have HS := Lib.hid (ssets_any w b s L m a ha h hf hm)
  unfold sThere
  generalize (sSets s a : Int) = x at *
  clear h hf hm
  by_cases h0 : 0 ≤ n
  · have hd : decide (0 ≤ n) = true := decide_eq_true h0
    go_enter Tryz.func10, Tryz.ntmps10
    go_wp2_with (go_at_call 17; refine HS.out.mono ?_; rintro e w' ⟨rfl, h2⟩)
    go_ret
    exact ⟨by simp [h0], h2⟩
  · have hd : decide (0 ≤ n) = false := decide_eq_false h0
    go_enter Tryz.func10, Tryz.ntmps10
    go_wp2_with fail
    go_ret
    exact ⟨by simp, Below.refl _ _⟩

set_option maxRecDepth 100000 in
set_option maxHeartbeats 1000000 in
theorem rsthere_any (w : World) (b : Nat) (s : St) (L : List Nat) (m : Nat) (a n : Int) (ha : a < 9223372036854775808) (h : RRep w b s L) (hf : s.Fit m) (hm : m < 100000000000) :
    Calls Tryz.prog 15 #[.pointer (some ⟨b, 0, none⟩), .int .i64 a, .int .i64 n] w (RetBool w (sThere s a n)) := by
  have HS := Lib.hid (rssets_any w b s L m a ha h hf hm)
  unfold sThere
  generalize (sSets s a : Int) = x at *
  clear h hf hm
  by_cases h0 : 0 ≤ n
  · have hd : decide (0 ≤ n) = true := decide_eq_true h0
    go_enter Tryz.func15, Tryz.ntmps15
    go_wp2_with (go_at_call 18; refine HS.out.mono ?_; rintro e w' ⟨rfl, h2⟩)
    go_ret
    exact ⟨by simp [h0], h2⟩
  · have hd : decide (0 ≤ n) = false := decide_eq_false h0
    go_enter Tryz.func15, Tryz.ntmps15
    go_wp2_with fail
    go_ret
    exact ⟨by simp, Below.refl _ _⟩

set_option maxRecDepth 100000 in
set_option maxHeartbeats 2000000 in
theorem sreg_any (w : World) (b : Nat) (s : St) (L : List Nat) (m : Nat) (a : Int) (ha : a < 9223372036854775808) (h : SRep w b s L) (hf : s.Fit m) (hm : m < 10000000000) (hB : isB a = true) (hI : sIs s a = false) :
    Calls Tryz.prog 26 #[.pointer (some ⟨b, 0, none⟩), .int .i64 a] w (RetSt w b L (.int .i64 0) (s.setInt (keyL 21 [a]) 1)) := by
  have hz : s.size < 1000000000000 := Nat.lt_of_le_of_lt hf.size (by omega)
  have HM := Lib.hid (made_at w b true h.cell0)
  have HG := Lib.hid (fun w => bgood_any a w)
  rw [hB] at HG
  have HIs := sis_any w b s L m a ha h hf (by omega)
  rw [hI] at HIs
  have HC : Hid (Calls Tryz.prog 13 #[.pointer (some ⟨b, 0, none⟩), .int .i64 a] w fun e w1 => e = .returned (.bool false) ∧
      Calls Tryz.prog 36 #[.int .i64 21, .slice (some ⟨w1.heap.size, 0, none⟩) 1 1] (w1.alloc (.cells #[.int .i64 a] 3)) fun e w2 => e = .returned (.string (keyL 21 [a])) ∧
      Calls Tryz.prog 53 #[.pointer (some ⟨b, 0, none⟩), .string (keyL 21 [a]), .int .i64 1] w2 fun e w3 => e = .returned (.tuple #[]) ∧ RetSt w b L (.int .i64 0) (s.setInt (keyL 21 [a]) 1) (.returned (.int .i64 0)) w3) := by
    refine HIs.mono fun e w1 ⟨he, hb1⟩ => ⟨he, ?_⟩
    refine (key_new1 21 (by decide) (by decide) a ha w1).mono fun e w2 ⟨he, hb2⟩ => ⟨he, ?_⟩
    have hb12 := bl_then hb1 hb2
    exact (setIntG_any w2 b s L _ 1 (by decide) (h.below hb12) hz).mono fun e w3 hR => ⟨hR.1, (RetSt.of_below hb12 hR).as _⟩
  generalize RetSt w b L (.int .i64 0) (s.setInt (keyL 21 [a]) 1) = R at *
  generalize keyL 21 [a] = kk at *
  clear h hf hz HIs
  go_enter Tryz.func26, Tryz.ntmps26
  go_wp2_with fail
  refine HM.out.mono ?_
  rintro e w' ⟨rfl, rfl⟩
  go_wp2_with fail
  refine (HG.out _).mono ?_
  rintro e w' ⟨rfl, rfl⟩
  go_wp2_with fail
  refine Calls.mono HC.out ?_
  rintro e w1 ⟨rfl, hC⟩
  have HC1 := Lib.hid hC
  clear hC HC HG
  go_wp2_with fail
  refine Calls.mono HC1.out ?_
  rintro e w2 ⟨rfl, hC⟩
  have HC2 := Lib.hid hC
  clear hC HC1
  go_wp2_with fail
  refine Calls.mono HC2.out ?_
  rintro e w3 ⟨rfl, hR⟩
  go_wp2_with fail
  exact hR

set_option maxRecDepth 100000 in
set_option maxHeartbeats 2000000 in
theorem rsreg_any (w : World) (b : Nat) (s : St) (L : List Nat) (m : Nat) (a : Int) (ha : a < 9223372036854775808) (h : RRep w b s L) (hf : s.Fit m) (hm : m < 10000000000) (hB : isB a = true) (hI : sIs s a = false) :
    Calls Tryz.prog 29 #[.pointer (some ⟨b, 0, none⟩), .int .i64 a] w (RetR w b L (.int .i64 0) (s.setInt (keyL 21 [a]) 1)) := by
  have hz : s.size < 1000000000000 := Nat.lt_of_le_of_lt hf.size (by omega)
  have HG := Lib.hid (fun w => ris_any a w)
  rw [hB] at HG
  have HIs := rsis_any w b s L m a ha h hf (by omega)
  rw [hI] at HIs
  have HC : Hid (Calls Tryz.prog 14 #[.pointer (some ⟨b, 0, none⟩), .int .i64 a] w fun e w1 => e = .returned (.bool false) ∧
      Calls Tryz.prog 44 #[.int .i64 21, .slice (some ⟨w1.heap.size, 0, none⟩) 1 1] (w1.alloc (.cells #[.int .i64 a] 3)) fun e w2 => e = .returned (.string (keyL 21 [a])) ∧
      Calls Tryz.prog 59 #[.pointer (some ⟨b, 0, none⟩), .string (keyL 21 [a]), .int .i64 1] w2 fun e w3 => e = .returned (.tuple #[]) ∧ RetR w b L (.int .i64 0) (s.setInt (keyL 21 [a]) 1) (.returned (.int .i64 0)) w3) := by
    refine HIs.mono fun e w1 ⟨he, hb1⟩ => ⟨he, ?_⟩
    refine (rkey_new1 21 (by decide) (by decide) a ha w1).mono fun e w2 ⟨he, hb2⟩ => ⟨he, ?_⟩
    have hb12 := bl_then hb1 hb2
    exact (rsetInt_any w2 b s L _ 1 (by decide) (h.below hb12) hz).mono fun e w3 hR => ⟨hR.1, (RetR.of_below hb12 hR).as _⟩
  generalize RetR w b L (.int .i64 0) (s.setInt (keyL 21 [a]) 1) = R at *
  generalize keyL 21 [a] = kk at *
  clear h hf hz HIs
  go_enter Tryz.func29, Tryz.ntmps29
  go_wp2_with fail
  refine (HG.out _).mono ?_
  rintro e w' ⟨rfl, rfl⟩
  go_wp2_with fail
  refine Calls.mono HC.out ?_
  rintro e w1 ⟨rfl, hC⟩
  have HC1 := Lib.hid hC
  clear hC HC HG
  go_wp2_with fail
  refine Calls.mono HC1.out ?_
  rintro e w2 ⟨rfl, hC⟩
  have HC2 := Lib.hid hC
  clear hC HC1
  go_wp2_with fail
  refine Calls.mono HC2.out ?_
  rintro e w3 ⟨rfl, hR⟩
  go_wp2_with fail
  exact hR
end Go.Proofs.YtnblhjndngpbnaaGreat
