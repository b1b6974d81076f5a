/- What is proved here: service.Has, Register, Exclude and vault.New of any state, and the reference's own. Their conditions: numbers below 2^63, sizes. -/
import Derived.Test.YtnblhjndngpbnaaGreatServA
namespace Go.Proofs.YtnblhjndngpbnaaGreat
open Go.RowKit

theorem ret_same {w w' : World} {b : Nat} {s : St} {L : List Nat} (h : SRep w b s L) (hb : Below w.heap.size w w') (v : Value) : RetSt w b L v s (.returned v) w' := ⟨rfl, L, h.below hb, ⟨Fr.of_below hb _, fun _ h => .inl h⟩⟩
theorem rret_same {w w' : World} {b : Nat} {s : St} {L : List Nat} (h : RRep w b s L) (hb : Below w.heap.size w w') (v : Value) : RetR w b L v s (.returned v) w' := ⟨rfl, L, h.below hb, ⟨Fr.of_below hb _, fun _ h => .inl h⟩⟩

set_option maxRecDepth 100000 in
set_option maxHeartbeats 2000000 in
theorem shas_any (w : World) (b : Nat) (s : St) (L : List Nat) (m : Nat) (a n g : Int) (ha : a < 9223372036854775808) (hn : n < 9223372036854775808) (hg : g < 9223372036854775808) (h : SRep w b s L) (hf : s.Fit m) (hm : m < 100000000000) :
    Calls Tryz.prog 12 #[.pointer (some ⟨b, 0, none⟩), .int .i64 a, .int .i64 n, .int .i64 g] w (RetBool w (sHas s a n g)) := by
  have HK := Lib.hid (setKey_any w a n g ha hn hg)
  have HI := sint_below h hf hm (keyL 23 [a, n, g])
  unfold sHas
  have he : ((s.int (keyL 23 [a, n, g]) : Int) == 1) = (s.int (keyL 23 [a, n, g]) == 1) := by
    rw [Bool.eq_iff_iff, beq_iff_eq, beq_iff_eq]; omega
  generalize s.int (keyL 23 [a, n, g]) = x at *
  generalize keyL 23 [a, n, g] = k at *
  clear h hf hm
  go_enter Tryz.func12, Tryz.ntmps12
  go_wp2_with (first | (go_at_call 42; refine Calls.mono HK.out ?_; rintro e w1 ⟨rfl, h1⟩) | (go_at_call 41; refine (HI.out _ h1).mono ?_; rintro e w' ⟨rfl, h2⟩))
  go_ret
  exact ⟨rfl, h2⟩

set_option maxRecDepth 100000 in
set_option maxHeartbeats 2000000 in
theorem rshas_any (w : World) (b : Nat) (s : St) (L : List Nat) (m : Nat) (a n g : Int) (ha : a < 9223372036854775808) (hn : n < 9223372036854775808) (hg : g < 9223372036854775808) (h : RRep w b s L) (hf : s.Fit m) (hm : m < 100000000000) :
    Calls Tryz.prog 16 #[.pointer (some ⟨b, 0, none⟩), .int .i64 a, .int .i64 n, .int .i64 g] w (RetBool w (sHas s a n g)) := by
  have HK := Lib.hid (rsetKey_any w a n g ha hn hg)
  have HI := rsint_below h hf hm (keyL 23 [a, n, g])
  unfold sHas
  have he : ((s.int (keyL 23 [a, n, g]) : Int) == 1) = (s.int (keyL 23 [a, n, g]) == 1) := by
    rw [Bool.eq_iff_iff, beq_iff_eq, beq_iff_eq]; omega
  generalize s.int (keyL 23 [a, n, g]) = x at *
  generalize keyL 23 [a, n, g] = k at *
  clear h hf hm
  go_enter Tryz.func16, Tryz.ntmps16
  go_wp2_with (first | (go_at_call 45; refine Calls.mono HK.out ?_; rintro e w1 ⟨rfl, h1⟩) | (go_at_call 43; refine (HI.out _ h1).mono ?_; rintro e w' ⟨rfl, h2⟩))
  go_ret
  exact ⟨rfl, h2⟩

set_option maxRecDepth 100000 in
set_option maxHeartbeats 2000000 in
theorem sexc_any (w : World) (b : Nat) (s : St) (L : List Nat) (m : Nat) (a n g : Int) (ha : a < 9223372036854775808) (hn : n < 9223372036854775808) (hg : g < 9223372036854775808) (h : SRep w b s L) (hf : s.Fit m) (hm : m < 10000000000) :
    Calls Tryz.prog 28 #[.pointer (some ⟨b, 0, none⟩), .int .i64 a, .int .i64 n, .int .i64 g] w (RetSt w b L (.int .i64 (sExc s a n g).1) (sExc s a n g).2) := by
  have hz : s.size < 1000000000000 := Nat.lt_of_le_of_lt hf.size (by omega)
  have HC : Hid (Calls Tryz.prog 42 #[.agg #[.int .i64 a, .int .i64 n], .int .i64 g] w fun e w1 => e = .returned (.string (keyL 23 [a, n, g])) ∧
      Calls Tryz.prog 57 #[.pointer (some ⟨b, 0, none⟩), .string (keyL 23 [a, n, g])] w1 fun e w2 => e = .returned (.bool (getE s.ents (keyL 23 [a, n, g])).isSome) ∧ ∀ u, RetSt w b L u (s.del (keyL 23 [a, n, g])) (.returned u) w2) := by
    refine (setKey_any w a n g ha hn hg).mono fun e w1 ⟨he, hb⟩ => ⟨he, ?_⟩
    exact (delete_any w1 b s L _ (h.below hb) hz).mono fun e w2 hR => ⟨hR.1, fun u => (RetSt.of_below hb hR).as u⟩
  unfold sExc
  generalize s.del (keyL 23 [a, n, g]) = s1 at *
  generalize (getE s.ents (keyL 23 [a, n, g])).isSome = ok at *
  generalize keyL 23 [a, n, g] = k at *
  clear h hf hm hz
  cases ok with
  | true =>
    go_enter Tryz.func28, Tryz.ntmps28
    go_wp2_with fail
    refine Calls.mono HC.out ?_
    rintro e w1 ⟨rfl, hC⟩
    have HC1 := Lib.hid hC
    clear hC HC
    go_wp2_with fail
    refine Calls.mono HC1.out ?_
    rintro e w2 ⟨rfl, hR⟩
    go_wp2_with fail
    go_ret
    exact hR _
  | false =>
    go_enter Tryz.func28, Tryz.ntmps28
    go_wp2_with fail
    refine Calls.mono HC.out ?_
    rintro e w1 ⟨rfl, hC⟩
    have HC1 := Lib.hid hC
    clear hC HC
    go_wp2_with fail
    refine Calls.mono HC1.out ?_
    rintro e w2 ⟨rfl, hR⟩
    go_wp2_with fail
    go_ret
    exact hR _

set_option maxRecDepth 100000 in
set_option maxHeartbeats 2000000 in
theorem rsexc_any (w : World) (b : Nat) (s : St) (L : List Nat) (m : Nat) (a n g : Int) (ha : a < 9223372036854775808) (hn : n < 9223372036854775808) (hg : g < 9223372036854775808) (h : RRep w b s L) (hf : s.Fit m) (hm : m < 10000000000) :
    Calls Tryz.prog 33 #[.pointer (some ⟨b, 0, none⟩), .int .i64 a, .int .i64 n, .int .i64 g] w (RetR w b L (.int .i64 (sExc s a n g).1) (sExc s a n g).2) := by
  have hz : s.size < 1000000000000 := Nat.lt_of_le_of_lt hf.size (by omega)
  have HC : Hid (Calls Tryz.prog 45 #[.int .i64 a, .int .i64 n, .int .i64 g] w fun e w1 => e = .returned (.string (keyL 23 [a, n, g])) ∧
      Calls Tryz.prog 62 #[.pointer (some ⟨b, 0, none⟩), .string (keyL 23 [a, n, g])] w1 fun e w2 => e = .returned (.bool (getE s.ents (keyL 23 [a, n, g])).isSome) ∧ ∀ u, RetR w b L u (s.del (keyL 23 [a, n, g])) (.returned u) w2) := by
    refine (rsetKey_any w a n g ha hn hg).mono fun e w1 ⟨he, hb⟩ => ⟨he, ?_⟩
    exact (rdelete_any w1 b s L _ (h.below hb) hz).mono fun e w2 hR => ⟨hR.1, fun u => (RetR.of_below hb hR).as u⟩
  unfold sExc
  generalize s.del (keyL 23 [a, n, g]) = s1 at *
  generalize (getE s.ents (keyL 23 [a, n, g])).isSome = ok at *
  generalize keyL 23 [a, n, g] = k at *
  clear h hf hm hz
  cases ok with
  | true =>
    go_enter Tryz.func33, Tryz.ntmps33
    go_wp2_with fail
    refine Calls.mono HC.out ?_
    rintro e w1 ⟨rfl, hC⟩
    have HC1 := Lib.hid hC
    clear hC HC
    go_wp2_with fail
    refine Calls.mono HC1.out ?_
    rintro e w2 ⟨rfl, hR⟩
    go_wp2_with fail
    go_ret
    exact hR _
  | false =>
    go_enter Tryz.func33, Tryz.ntmps33
    go_wp2_with fail
    refine Calls.mono HC.out ?_
    rintro e w1 ⟨rfl, hC⟩
    have HC1 := Lib.hid hC
    clear hC HC
    go_wp2_with fail
    refine Calls.mono HC1.out ?_
    rintro e w2 ⟨rfl, hR⟩
    go_wp2_with fail
    go_ret
    exact hR _

set_option maxRecDepth 100000 in
set_option maxHeartbeats 2000000 in
theorem sregG_any (w : World) (b : Nat) (s : St) (L : List Nat) (m : Nat) (a : Int) (ha : a < 9223372036854775808) (h : SRep w b s L) (hf : s.Fit m) (hm : m < 10000000000) :
    Calls Tryz.prog 26 #[.pointer (some ⟨b, 0, none⟩), .int .i64 a] w (RetSt w b L (.int .i64 (sReg s a).1) (sReg s a).2) := by
  unfold sReg
  have HM := Lib.hid (made_at w b true h.cell0)
  have HG := Lib.hid (fun w => bgood_any a w)
  have HI := Lib.hid (sis_any w b s L m a ha h hf (by omega))
  have HR := Lib.hid (fun w' (hb : Below w.heap.size w w') v => ret_same h hb v)
  cases hB : isB a with
  | false =>
    rw [hB] at HG
    rw [if_pos rfl]
    clear h hf HI
    generalize RetSt w b L = R at *
    go_enter Tryz.func26, Tryz.ntmps26
    go_wp2_with fail
    refine HM.out.mono ?_
    rintro e w' ⟨rfl, rfl⟩
    go_wp2_with fail
    refine (HG.out _).mono ?_
    rintro e w' ⟨rfl, rfl⟩
    go_wp2_with fail
    exact HR.out _ (Below.refl _ _) _
  | true =>
    rw [if_neg (by decide)]
    cases hI : sIs s a with
    | true =>
      rw [hB] at HG
      rw [hI] at HI
      rw [if_pos rfl]
      clear h hf
      generalize RetSt w b L = R at *
      go_enter Tryz.func26, Tryz.ntmps26
      go_wp2_with fail
      refine HM.out.mono ?_
      rintro e w' ⟨rfl, rfl⟩
      go_wp2_with fail
      refine (HG.out _).mono ?_
      rintro e w' ⟨rfl, rfl⟩
      go_wp2_with fail
      refine HI.out.mono ?_
      rintro e w1 ⟨rfl, hb1⟩
      go_wp2_with fail
      exact HR.out _ hb1 _
    | false =>
      rw [if_neg (by decide)]
      exact sreg_any w b s L m a ha h hf hm hB hI

set_option maxRecDepth 100000 in
set_option maxHeartbeats 2000000 in
theorem rsregG_any (w : World) (b : Nat) (s : St) (L : List Nat) (m : Nat) (a : Int) (ha : a < 9223372036854775808) (h : RRep w b s L) (hf : s.Fit m) (hm : m < 10000000000) :
    Calls Tryz.prog 29 #[.pointer (some ⟨b, 0, none⟩), .int .i64 a] w (RetR w b L (.int .i64 (sReg s a).1) (sReg s a).2) := by
  unfold sReg
  have HG := Lib.hid (fun w => ris_any a w)
  have HI := Lib.hid (rsis_any w b s L m a ha h hf (by omega))
  have HR := Lib.hid (fun w' (hb : Below w.heap.size w w') v => rret_same h hb v)
  cases hB : isB a with
  | false =>
    rw [hB] at HG
    rw [if_pos rfl]
    clear h hf HI
    generalize RetR w b L = R at *
    go_enter Tryz.func29, Tryz.ntmps29
    go_wp2_with fail
    refine (HG.out _).mono ?_
    rintro e w' ⟨rfl, rfl⟩
    go_wp2_with fail
    exact HR.out _ (Below.refl _ _) _
  | true =>
    rw [if_neg (by decide)]
    cases hI : sIs s a with
    | true =>
      rw [hB] at HG
      rw [hI] at HI
      rw [if_pos rfl]
      clear h hf
      generalize RetR w b L = R at *
      go_enter Tryz.func29, Tryz.ntmps29
      go_wp2_with fail
      refine (HG.out _).mono ?_
      rintro e w' ⟨rfl, rfl⟩
      go_wp2_with fail
      refine HI.out.mono ?_
      rintro e w1 ⟨rfl, hb1⟩
      go_wp2_with fail
      exact HR.out _ hb1 _
    | false =>
      rw [if_neg (by decide)]
      exact rsreg_any w b s L m a ha h hf hm hB hI

set_option maxRecDepth 100000 in
set_option maxHeartbeats 2000000 in
theorem vnewG_any (w : World) (b : Nat) (s : St) (L : List Nat) (f : Nat) (h : SRep w b s L) (hf : s.Fit f) (hm : f < 10000000000) :
    Calls Tryz.prog 25 #[.pointer (some ⟨b, 0, none⟩), .int .i64 1] w (RetSt w b L (.tuple #[.int .i64 (vNewG s).1.1, .int .i64 (vNewG s).1.2]) (vNewG s).2) := by
  unfold vNewG
  by_cases h32 : 32 ≤ s.int K5
  · rw [if_pos h32]
    have HM := Lib.hid (made_at w b true h.cell0)
    have HG := Lib.hid (fun w => bgood_any 1 w)
    have hB1 : isB 1 = true := by decide
    rw [hB1] at HG
    have HV := Lib.hid (vcount_any w b s L h (hf.val' _))
    have HR := Lib.hid (fun w' (hb : Below w.heap.size w w') v => ret_same h hb v)
    have hd32 : decide ((32 : Int) ≤ (s.int K5 : Int)) = true := decide_eq_true (by omega)
    clear h hf
    generalize RetSt w b L = R at *
    generalize s.int K5 = n at *
    go_enter Tryz.func25, Tryz.ntmps25
    go_wp2_with fail
    refine HM.out.mono ?_
    rintro e w' ⟨rfl, rfl⟩
    go_wp2_with fail
    refine (HG.out _).mono ?_
    rintro e w' ⟨rfl, rfl⟩
    go_wp2_with fail
    refine HV.out.mono ?_
    rintro e w1 ⟨rfl, hb1⟩
    go_wp2_with fail
    exact HR.out _ hb1 _
  · rw [if_neg h32]
    exact vnew_any w b s L f h hf hm (by omega)

set_option maxRecDepth 100000 in
set_option maxHeartbeats 2000000 in
theorem rvnewG_any (w : World) (b : Nat) (s : St) (L : List Nat) (f : Nat) (h : RRep w b s L) (hf : s.Fit f) (hm : f < 10000000000) :
    Calls Tryz.prog 34 #[.pointer (some ⟨b, 0, none⟩), .int .i64 1] w (RetR w b L (.tuple #[.int .i64 (vNewG s).1.1, .int .i64 (vNewG s).1.2]) (vNewG s).2) := by
  unfold vNewG
  have hz : s.size < 1000000000000 := Nat.lt_of_le_of_lt hf.size (by omega)
  by_cases h32 : 32 ≤ s.int K5
  · rw [if_pos h32]
    have HV := Lib.hid (rvcount_any w b s L h (hf.val' _) hz)
    have HR := Lib.hid (fun w' (hb : Below w.heap.size w w') v => rret_same h hb v)
    have hd32 : decide ((32 : Int) ≤ (s.int K5 : Int)) = true := decide_eq_true (by omega)
    clear h hf hz
    generalize RetR w b L = R at *
    generalize s.int K5 = n at *
    go_enter Tryz.func34, Tryz.ntmps34
    go_wp2_with fail
    refine HV.out.mono ?_
    rintro e w1 ⟨rfl, hb1⟩
    go_wp2_with fail
    exact HR.out _ hb1 _
  · rw [if_neg h32]
    exact rvnew_any w b s L f h hf hm (by omega)
end Go.Proofs.YtnblhjndngpbnaaGreat
