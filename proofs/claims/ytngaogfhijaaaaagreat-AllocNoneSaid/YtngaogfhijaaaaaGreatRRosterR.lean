/- What is proved here: the reference's chapter 21: Is, Of and Register over its store. Their conditions: as the program's. -/
import Derived.Test.YtngaogfhijaaaaaGreatRosterP
namespace Go.Proofs.YtngaogfhijaaaaaGreat
open Go.RowKit

theorem rsint_below {w : World} {b : Nat} {s : St} {L : List Nat} {m : Nat} (h : RRep w b s L) (hf : s.Fit m) (hm : m < 100000000000) (k : ByteArray) :
    Hid (∀ w1, Below w.heap.size w w1 → Calls Tryz.prog 138 #[.pointer (some ⟨b, 0, none⟩), .string k] w1 (RetInt w (s.int k))) := fun w1 h1 =>
  (rint_at w1 b s L k (h.below h1) (hf.val' _) (Nat.lt_of_le_of_lt hf.size (by omega))).mono fun _ _ h2 => h2.of_below h1

theorem rssetInt_below {w : World} {b : Nat} {s : St} {L : List Nat} (h : RRep w b s L) (hb : s.size < 1000000000000) (k : ByteArray) (n : Int) (hn : n < 9223372036854775808) :
    Hid (∀ w1, Below w.heap.size w w1 → Calls Tryz.prog 90 #[.pointer (some ⟨b, 0, none⟩), .string k, .int .i64 n] w1 fun e w' => e = .returned (.tuple #[]) ∧ ∃ L', RRep w' b (s.setInt k n) L' ∧ Step w L w' L') := fun w1 h1 =>
  (rsetInt_any w1 b s L k n hn (h.below h1) hb).mono fun _ _ h2 => h2.of_below h1

set_option maxRecDepth 100000 in
set_option maxHeartbeats 1000000 in
theorem risR_any (w : World) (b : Nat) (s : St) (L : List Nat) (m : Nat) (a : Int) (ha : a < 9223372036854775808) (h : RRep w b s L) (hf : s.Fit m) (hm : m < 100000000000) :
    Calls Tryz.prog 103 #[.pointer (some ⟨b, 0, none⟩), .int .i64 a] w (RetBool w (rIs s a)) := by
  have HK := Lib.hid (rkey_new1 8 (by omega) (by omega) a ha w)
  have HI := rsint_below h hf hm (keyL 8 [a])
  unfold rIs K8
  have he : ((s.int (keyL 8 [a]) : Int) == 1) = (s.int (keyL 8 [a]) == 1) := by
    rw [Bool.eq_iff_iff, beq_iff_eq, beq_iff_eq]; omega
  generalize s.int (keyL 8 [a]) = x at *
  generalize keyL 8 [a] = k at *
  clear h hf hm
  go_enter Tryz.func103, Tryz.ntmps103
  go_wp2_with (first | (go_at_call 54; refine Calls.mono HK.out ?_; rintro e w1 ⟨rfl, h1⟩) | (go_at_call 138; refine (HI.out _ h1).mono ?_; rintro e w' ⟨rfl, h2⟩))
  go_ret
  exact ⟨rfl, h2⟩

set_option maxRecDepth 100000 in
set_option maxHeartbeats 1000000 in
theorem rofR_any (w : World) (b : Nat) (s : St) (L : List Nat) (m : Nat) (a : Int) (ha : a < 9223372036854775808) (h : RRep w b s L) (hf : s.Fit m) (hm : m < 100000000000) :
    Calls Tryz.prog 104 #[.pointer (some ⟨b, 0, none⟩), .int .i64 a] w (RetInt w (rOf s a)) := by
  have HK := Lib.hid (rkey_new1 9 (by omega) (by omega) a ha w)
  have HI := rsint_below h hf hm (keyL 9 [a])
  unfold rOf K9
  generalize s.int (keyL 9 [a]) = x at *
  generalize keyL 9 [a] = k at *
  clear h hf hm
  go_enter Tryz.func104, Tryz.ntmps104
  go_wp2_with (first | (go_at_call 54; refine Calls.mono HK.out ?_; rintro e w1 ⟨rfl, h1⟩) | (go_at_call 138; refine (HI.out _ h1).mono ?_; rintro e w' ⟨rfl, h2⟩))
  go_ret
  exact ⟨rfl, h2⟩

set_option maxRecDepth 100000 in
set_option maxHeartbeats 2000000 in
theorem rregister_any (w : World) (b : Nat) (s : St) (L : List Nat) (m : Nat) (a : Int) (ha : a < 9223372036854775808) (h : RRep w b s L) (hf : s.Fit m) (hm : m < 100000000000) :
    Calls Tryz.prog 39 #[.pointer (some ⟨b, 0, none⟩), .int .i64 a] w (RetR w b L (.int .i64 (rRegister s a).1) (rRegister s a).2) := by
  have HA := Lib.hid (fun w => ris_any a w)
  have HIs : ∀ x : Int, x < 9223372036854775808 → Hid (∀ w1, Below w.heap.size w w1 → Calls Tryz.prog 103 #[.pointer (some ⟨b, 0, none⟩), .int .i64 x] w1 fun e w' => e = .returned (.bool (rIs s x)) ∧ Below w.heap.size w w') := fun x hx w1 hb1 => (risR_any w1 b s L m x hx (h.below hb1) hf hm).mono fun _ _ ⟨he, hb2⟩ => ⟨he, hb1.trans (hb2.mono hb1.size)⟩
  have HOf : ∀ x : Int, x < 9223372036854775808 → Hid (∀ w1, Below w.heap.size w w1 → Calls Tryz.prog 104 #[.pointer (some ⟨b, 0, none⟩), .int .i64 x] w1 fun e w' => e = .returned (.int .i64 (rOf s x)) ∧ Below w.heap.size w w') := fun x hx w1 hb1 => (rofR_any w1 b s L m x hx (h.below hb1) hf hm).mono fun _ _ ⟨he, hb2⟩ => ⟨he, hb1.trans (hb2.mono hb1.size)⟩
  have hsz : s.size < 1000000000000 := Nat.lt_of_le_of_lt hf.size (by omega)
  have HE : Hid (∀ n w1, rRegister s a = (n, s) → Below w.heap.size w w1 → RetR w b L (.int .i64 (rRegister s a).1) (rRegister s a).2 (.returned (.int .i64 n)) w1) := fun n w1 e hb1 => by
    rw [e]; exact ⟨rfl, L, h.below hb1, ⟨Fr.of_below hb1 _, fun _ h => .inl h⟩⟩
  have HU : Hid (rRegister s a = if isB a = false then (2, s) else if rIs s a then (9, s) else if rOf s a ≠ 0 then (10, s) else (0, (s.setInt (K8 a) 1).setInt (K9 a) a)) := rfl
  have HK9 := Lib.hid (fun w => rkey_new1 9 (by omega) (by omega) a ha w)
  have HI := HIs a ha
  have HO := HOf a ha
  have HK8 := Lib.hid (fun w => rkey_new1 8 (by omega) (by omega) a ha w)
  have HS1 : Hid (∀ w1, Below w.heap.size w w1 → Calls Tryz.prog 90 #[.pointer (some ⟨b, 0, none⟩), .string (keyL 8 [a]), .int .i64 1] w1 fun e w' => e = .returned (.tuple #[]) ∧ ∃ L', RRep w' b (s.setInt (K8 a) 1) L' ∧ Step w L w' L') := fun w1 h1 =>
    (rsetInt_any w1 b s L _ 1 (by decide) (h.below h1) hsz).mono fun _ _ h2 => h2.of_below h1
  have HS2 : Hid (∀ w4 w5, (∃ L', RRep w4 b (s.setInt (K8 a) 1) L' ∧ Step w L w4 L') → Below w4.heap.size w4 w5 → rRegister s a = (0, (s.setInt (K8 a) 1).setInt (K9 a) a) → Calls Tryz.prog 90 #[.pointer (some ⟨b, 0, none⟩), .string (keyL 9 [a]), .int .i64 a] w5 fun e w' => e = .returned (.tuple #[]) ∧ RetR w b L (.int .i64 (rRegister s a).1) (rRegister s a).2 (.returned (.int .i64 0)) w') := fun w4 w5 ⟨L', h4, h5⟩ hb5 e => by
    rw [e]
    refine (rsetInt_any w5 b _ L' _ a ha (h4.below hb5) (Nat.lt_of_le_of_lt (hf.setInt _ _).size (by omega))).mono fun _ _ ⟨he, L2, h6, h7⟩ => ⟨he, rfl, L2, h6, h5.trans ((Step.mk (Fr.of_below hb5 _) fun _ h => .inl h).trans h7)⟩
  generalize RetR w b L (.int .i64 (rRegister s a).1) (rRegister s a).2 = R at *
  generalize hs2 : rRegister s a = rr at *
  generalize (s.setInt (K8 a) 1).setInt (K9 a) a = s2 at *
  clear hs2 HIs HOf hsz h hf
  generalize isB a = x at *
  generalize rIs s a = y at *
  generalize rOf s a = z at *
  cases x with
  | false =>
    have HU3 := Lib.hid (HE.out 2 w (by rw [HU.out]; rfl) (Below.refl _ _))
    go_enter Tryz.func39, Tryz.ntmps39
    go_wp2_with fail
    refine (HA.out _).mono ?_
    rintro e w' ⟨rfl, rfl⟩
    go_wp2_with fail
    exact HU3.out
  | true =>
  cases y with
  | true =>
    have HU2 : Hid (∀ w1, Below w.heap.size w w1 → R (.returned (.int .i64 9)) w1) := fun w1 h1 => HE.out 9 w1 (by rw [HU.out]; rfl) h1
    go_enter Tryz.func39, Tryz.ntmps39
    go_wp2_with fail
    refine (HA.out _).mono ?_
    rintro e w' ⟨rfl, rfl⟩
    go_wp2_with fail
    refine (HI.out _ (Below.refl _ _)).mono ?_
    rintro e w1 ⟨rfl, h1⟩
    go_wp2_with fail
    exact HU2.out _ h1
  | false =>
  by_cases hz : z = 0
  · subst hz
    have HRR := Lib.hid (show rr = (0, s2) by rw [HU.out]; rfl)
    go_enter Tryz.func39, Tryz.ntmps39
    go_wp2_with fail
    refine (HA.out _).mono ?_
    rintro e w' ⟨rfl, rfl⟩
    go_wp2_with fail
    refine (HI.out _ (Below.refl _ _)).mono ?_
    rintro e w1 ⟨rfl, h1⟩
    go_wp2_with fail
    refine (HO.out _ h1).mono ?_
    rintro e w2 ⟨rfl, h2⟩
    go_wp2_with fail
    refine Calls.mono (HK8.out w2) ?_
    rintro e w3 ⟨rfl, h3⟩
    go_wp2_with fail
    refine (HS1.out _ (h2.trans (h3.mono h2.size))).mono ?_
    rintro e w4 ⟨rfl, h4⟩
    have H4 := Lib.hid h4
    clear h4
    go_wp2_with fail
    refine Calls.mono (HK9.out w4) ?_
    rintro e w5 ⟨rfl, h5⟩
    go_wp2_with fail
    refine (HS2.out w4 w5 H4.out h5 HRR.out).mono ?_
    rintro e w6 ⟨rfl, hR⟩
    go_wp2_with fail
    exact hR
  · have HU2 : Hid (∀ w1, Below w.heap.size w w1 → R (.returned (.int .i64 10)) w1) := fun w1 h1 => HE.out 10 w1 (by rw [HU.out]; simp [hz]) h1
    have hzb : (((z : Nat) : Int) != 0) = true := by rw [bne_iff_ne]; omega
    clear hz
    go_enter Tryz.func39, Tryz.ntmps39
    go_wp2_with fail
    refine (HA.out _).mono ?_
    rintro e w' ⟨rfl, rfl⟩
    go_wp2_with fail
    refine (HI.out _ (Below.refl _ _)).mono ?_
    rintro e w1 ⟨rfl, h1⟩
    go_wp2_with fail
    refine (HO.out _ h1).mono ?_
    rintro e w2 ⟨rfl, h2⟩
    go_wp2_with fail
    exact HU2.out _ h2

end Go.Proofs.YtngaogfhijaaaaaGreat
