/- What is proved here: members where no store was made; the member laws' own lives; MemberNone's walk. Its conditions: numbers below 2^63. -/
import Derived.Test.YtngaogfhijaaaaaGreatMemM
namespace Go.Proofs.YtngaogfhijaaaaaGreat
open Go.RowKit

set_option maxRecDepth 100000 in
set_option maxHeartbeats 1000000 in
theorem mJoin_not (w : World) (q : Option Addr) (a n o t : Int) (h : NoStore w q) : Calls Tryz.prog 14 #[.pointer q, .int .i64 a, .int .i64 n, .int .i64 o, .int .i64 t] w fun e w' => e = .returned (.int .i64 1) ∧ w = w' := by
  have HM := Lib.hid h.made
  clear h
  go_enter Tryz.func14, Tryz.ntmps14
  go_wp2_with (go_at_call 45; refine HM.out.mono ?_; rintro e w' ⟨rfl, rfl⟩)
  go_ret
  exact ⟨rfl, rfl⟩

set_option maxRecDepth 100000 in
set_option maxHeartbeats 1000000 in
theorem mLeave_not (w : World) (q : Option Addr) (a n o t u : Int) (h : NoStore w q) : Calls Tryz.prog 15 #[.pointer q, .int .i64 a, .int .i64 n, .int .i64 o, .int .i64 t, .int .i64 u] w fun e w' => e = .returned (.int .i64 1) ∧ w = w' := by
  have HM := Lib.hid h.made
  clear h
  go_enter Tryz.func15, Tryz.ntmps15
  go_wp2_with (go_at_call 45; refine HM.out.mono ?_; rintro e w' ⟨rfl, rfl⟩)
  go_ret
  exact ⟨rfl, rfl⟩

set_option maxRecDepth 100000 in
set_option maxHeartbeats 1000000 in
theorem ssets_not (w : World) (q : Option Addr) (a : Int) (ha : a < 9223372036854775808) (h : NoStore w q) : Calls Tryz.prog 95 #[.pointer q, .int .i64 a] w fun e w' => e = .returned (.int .i64 0) ∧ Below w.heap.size w w' := by
  have HK := Lib.hid (key_new1 22 (by omega) (by omega) a ha w)
  have HI : Hid (∀ w1 k, Below w.heap.size w w1 → Calls Tryz.prog 108 #[.pointer q, .string k] w1 fun e w' => e = .returned (.int .i64 0) ∧ w1 = w') := fun w1 k h1 => int_none w1 q k ((h.below h1).get _)
  clear h ha
  go_enter Tryz.func95, Tryz.ntmps95
  go_wp2_with (first | (go_at_call 75; refine Calls.mono HK.out ?_; rintro e w1 ⟨rfl, h1⟩) | (go_at_call 108; refine (HI.out _ _ h1).mono ?_; rintro e w' ⟨rfl, rfl⟩))
  go_ret
  exact ⟨rfl, h1⟩

set_option maxRecDepth 100000 in
set_option maxHeartbeats 1000000 in
theorem sthere_not (w : World) (q : Option Addr) (a n : Int) (ha : a < 9223372036854775808) (h : NoStore w q) : Calls Tryz.prog 43 #[.pointer q, .int .i64 a, .int .i64 n] w fun e w' => e = .returned (.bool false) ∧ Below w.heap.size w w' := by
  have HS := Lib.hid (ssets_not w q a ha h)
  clear h
  by_cases h0 : 0 ≤ n
  · have hd : decide (0 ≤ n) = true := decide_eq_true h0
    have hd2 : decide (n < 0) = false := decide_eq_false (by omega)
    go_enter Tryz.func43, Tryz.ntmps43
    go_wp2_with (go_at_call 95; refine HS.out.mono ?_; rintro e w' ⟨rfl, h2⟩)
    go_ret
    exact ⟨by simp, h2⟩
  · have hd : decide (0 ≤ n) = false := decide_eq_false h0
    go_enter Tryz.func43, Tryz.ntmps43
    go_wp2_with fail
    go_ret
    exact ⟨by simp, Below.refl _ _⟩

set_option maxRecDepth 100000 in
set_option maxHeartbeats 1000000 in
theorem members_not (w : World) (q : Option Addr) (a n : Int) (ha : a < 9223372036854775808) (h : NoStore w q) : Calls Tryz.prog 13 #[.pointer q, .int .i64 a, .int .i64 n] w fun e w' => (∃ ad c, e = .returned (.slice ad 0 c)) ∧ Below w.heap.size w w' := by
  have hb0 : Below w.heap.size w (w.alloc (.cells #[.slice none 0 0] 36)) := (Below.refl _ w).alloc (Nat.le_refl _) _
  have HT0 := Lib.hid (sthere_not (w.alloc (.cells #[.slice none 0 0] 36)) q a n ha (h.below hb0))
  clear h
  go_enter Tryz.func13, Tryz.ntmps13
  go_wp2_with fail
  refine HT0.out.mono ?_
  rintro e w1 ⟨rfl, h1⟩
  have hb1 := bl_then hb0 h1
  go_wp2_with fail
  go_ret
  exact ⟨⟨_, _, rfl⟩, hb1⟩

/-- The example's stores. -/
def lvm1 : St := (mJoin m27 9 0 1 0).2
def lvm2 : St := (mLeave lvm1 9 0 1 5 3).2
theorem lvm_1 : (mJoin m27 9 0 1 0).1 = 0 := by kernel_rfl
theorem lvm_2 : (mLeave lvm1 9 0 1 5 3).1 = 0 := by kernel_rfl
theorem lvm_3 : mSlash lvm2 9 0 1 8 = true := by kernel_rfl
theorem lvm_4 : mSlash lvm2 9 0 1 9 = false := by kernel_rfl
theorem lvm_5 : (mJoin lvm2 9 0 1 8).1 = 10 := by kernel_rfl

set_option maxRecDepth 100000 in
set_option maxHeartbeats 2000000 in
theorem lives27 (w : World) : Calls Tryz.prog 7 #[] w fun e w' => e = .returned (.bool true) ∧ Below w.heap.size w w' := by
  have f1 : lvm1.Fit 28 := mJoin_fit f27 9 0 1 0
  have f2 : lvm2.Fit 30 := mLeave_fit f1 9 0 1 5 3
  have HN : Hid (Calls Tryz.prog 8 #[] w fun e w1 => ∃ b m, e = .returned (.tuple #[.pointer (some ⟨b, 0, none⟩), .pointer (some ⟨m, 0, none⟩)]) ∧
      Calls Tryz.prog 14 #[.pointer (some ⟨b, 0, none⟩), .int .i64 9, .int .i64 0, .int .i64 1, .int .i64 0] w1 fun e w2 => e = .returned (.int .i64 0) ∧
      Calls Tryz.prog 15 #[.pointer (some ⟨b, 0, none⟩), .int .i64 9, .int .i64 0, .int .i64 1, .int .i64 5, .int .i64 3] w2 fun e w3 => e = .returned (.int .i64 0) ∧
      Calls Tryz.prog 12 #[.pointer (some ⟨b, 0, none⟩), .int .i64 9, .int .i64 0, .int .i64 1, .int .i64 8] w3 fun e w4 => e = .returned (.bool true) ∧
      Calls Tryz.prog 12 #[.pointer (some ⟨b, 0, none⟩), .int .i64 9, .int .i64 0, .int .i64 1, .int .i64 9] w4 fun e w5 => e = .returned (.bool false) ∧
      Calls Tryz.prog 14 #[.pointer (some ⟨b, 0, none⟩), .int .i64 9, .int .i64 0, .int .i64 1, .int .i64 8] w5 fun e w6 => e = .returned (.int .i64 10) ∧ Below w.heap.size w w6) := by
    refine (world27_any w).mono fun e w1 ⟨b, m, he, T1⟩ => ⟨b, m, he, ?_⟩
    refine (T1.prog fun L hS => mJoin_any w1 b m27 L 26 9 0 1 0 (by decide) (by decide) (by decide) hS f27 (by decide)).mono fun e w2 ⟨he, T2⟩ => ⟨by rw [he, lvm_1], ?_⟩
    refine (T2.prog fun L hS => mLeave_any w2 b lvm1 L 28 9 0 1 5 3 (by decide) (by decide) (by decide) hS f1 (by decide)).mono fun e w3 ⟨he, T3⟩ => ⟨by rw [he, lvm_2], ?_⟩
    obtain ⟨L3, hS3⟩ := T3.two.srep
    refine (T3.still (mSlash_any w3 _ lvm2 9 0 1 8 (by decide) (by decide) (by decide) (ReadAt.made hS3 f2 (by decide)))).mono fun e w4 ⟨he, T4⟩ => ⟨by rw [he, lvm_3], ?_⟩
    obtain ⟨L4, hS4⟩ := T4.two.srep
    refine (T4.still (mSlash_any w4 _ lvm2 9 0 1 9 (by decide) (by decide) (by decide) (ReadAt.made hS4 f2 (by decide)))).mono fun e w5 ⟨he, T5⟩ => ⟨by rw [he, lvm_4], ?_⟩
    exact (T5.prog fun L hS => mJoin_any w5 b lvm2 L 30 9 0 1 8 (by decide) (by decide) (by decide) hS f2 (by decide)).mono fun e w6 ⟨he, T6⟩ => ⟨by rw [he, lvm_5], T6.1⟩
  go_enter Tryz.func7, Tryz.ntmps7
  go_wp2_with fail
  refine Calls.mono HN.out ?_
  rintro e w1 ⟨b, m, rfl, hC⟩
  have H1 := Lib.hid hC
  clear hC HN
  go_wp2_with fail
  refine Calls.mono H1.out ?_
  rintro e w2 ⟨rfl, h1c⟩
  have H2 := Lib.hid h1c
  clear h1c H1
  go_wp2_with fail
  refine Calls.mono H2.out ?_
  rintro e w3 ⟨rfl, h2c⟩
  have H3 := Lib.hid h2c
  clear h2c H2
  go_wp2_with fail
  refine Calls.mono H3.out ?_
  rintro e w4 ⟨rfl, h3c⟩
  have H4 := Lib.hid h3c
  clear h3c H3
  go_wp2_with fail
  refine Calls.mono H4.out ?_
  rintro e w5 ⟨rfl, h4c⟩
  have H5 := Lib.hid h4c
  clear h4c H4
  go_wp2_with fail
  refine Calls.mono H5.out ?_
  rintro e w6 ⟨rfl, h5c⟩
  go_wp2_with fail
  go_ret
  exact ⟨rfl, h5c⟩

/-- Between two rounds: nothing that was there has turned; no store was made; the numbers lie in their box. -/
abbrev MNoneAt (w : World) (bx : Nat) (n o p t : Int) (q0 : Option Addr) (wr : World) : Prop :=
  Below w.heap.size w wr ∧ NoStore wr q0 ∧ wr.cell? ⟨bx, 1, none⟩ = some (.int .i64 n) ∧ wr.cell? ⟨bx, 2, none⟩ = some (.int .i64 o) ∧ wr.cell? ⟨bx, 3, none⟩ = some (.int .i64 p) ∧ wr.cell? ⟨bx, 4, none⟩ = some (.int .i64 t)

theorem MNoneAt.below {w wr w' : World} {bx : Nat} {n o p t : Int} {q0 : Option Addr} (h : MNoneAt w bx n o p t q0 wr) (hb : Below wr.heap.size wr w') : MNoneAt w bx n o p t q0 w' := by
  obtain ⟨h0, h1, c1, c2, c3, c4⟩ := h
  exact ⟨h0.trans (hb.mono h0.size), h1.below hb, by rw [hb.cell (World.block_lt_of_cell? wr _ c1)]; exact c1, by rw [hb.cell (World.block_lt_of_cell? wr _ c2)]; exact c2, by rw [hb.cell (World.block_lt_of_cell? wr _ c3)]; exact c3, by rw [hb.cell (World.block_lt_of_cell? wr _ c4)]; exact c4⟩

/-- One round: the six calls. -/
def MNoneRound (w : World) (bx : Nat) (n o p t : Int) (q0 q : Option Addr) (wr : World) : Prop :=
  Calls Tryz.prog 10 #[.pointer q, .int .i64 9, .int .i64 n, .int .i64 o] wr fun e w1 => e = .returned (.tuple #[.int .i64 0, .bool false]) ∧ MNoneAt w bx n o p t q0 w1 ∧
  Calls Tryz.prog 14 #[.pointer q, .int .i64 9, .int .i64 n, .int .i64 o, .int .i64 p] w1 fun e w2 => e = .returned (.int .i64 1) ∧ MNoneAt w bx n o p t q0 w2 ∧
  Calls Tryz.prog 15 #[.pointer q, .int .i64 9, .int .i64 n, .int .i64 o, .int .i64 p, .int .i64 t] w2 fun e w3 => e = .returned (.int .i64 1) ∧ MNoneAt w bx n o p t q0 w3 ∧
  Calls Tryz.prog 11 #[.pointer q, .int .i64 9, .int .i64 n, .int .i64 o] w3 fun e w4 => e = .returned (.bool false) ∧ MNoneAt w bx n o p t q0 w4 ∧
  Calls Tryz.prog 12 #[.pointer q, .int .i64 9, .int .i64 n, .int .i64 o, .int .i64 p] w4 fun e w5 => e = .returned (.bool false) ∧ MNoneAt w bx n o p t q0 w5 ∧
  Calls Tryz.prog 13 #[.pointer q, .int .i64 9, .int .i64 n] w5 fun e w6 => (∃ ad c, e = .returned (.slice ad 0 c)) ∧ MNoneAt w bx n o p t q0 w6

theorem mnone_round {w wr : World} {bx : Nat} {n o p t : Int} {q0 q : Option Addr} (hn : n < 9223372036854775808) (ho : o < 9223372036854775808) (h : MNoneAt w bx n o p t q0 wr) (hq : NoStore wr q) : MNoneRound w bx n o p t q0 q wr := by
  refine (mUntil_any wr q ⟨[], []⟩ 9 n o (by decide) hn ho (ReadAt.not hq)).mono fun e w1 ⟨he, b1⟩ => ⟨he, h.below b1, ?_⟩
  have h1 := h.below b1
  have q1 := hq.below b1
  refine (mJoin_not w1 q 9 n o p q1).mono fun e w2 ⟨he, e2⟩ => ⟨he, by subst e2; exact h1, ?_⟩
  subst e2
  refine (mLeave_not w1 q 9 n o p t q1).mono fun e w3 ⟨he, e3⟩ => ⟨he, by subst e3; exact h1, ?_⟩
  subst e3
  refine (mIn_any w1 q ⟨[], []⟩ 9 n o (by decide) hn ho (ReadAt.not q1)).mono fun e w4 ⟨he, b4⟩ => ⟨he, h1.below b4, ?_⟩
  have h4 := h1.below b4
  have q4 := q1.below b4
  refine (mSlash_any w4 q ⟨[], []⟩ 9 n o p (by decide) hn ho (ReadAt.not q4)).mono fun e w5 ⟨he, b5⟩ => ⟨he, h4.below b5, ?_⟩
  have h5 := h4.below b5
  have q5 := q4.below b5
  exact (members_not w5 q 9 n (by decide) q5).mono fun e w6 ⟨he, b6⟩ => ⟨he, h5.below b6⟩

theorem index_none27 (a : Nat) (w : World) : (Instr.index 46 (.agg #[.pointer none, .pointer (some ⟨a, 0, none⟩)]) (.int .i64 0)).run Tryz.prog w = .ok (.pointer none) w := by kernel_rfl
theorem index_some27 (a : Nat) (w : World) : (Instr.index 46 (.agg #[.pointer none, .pointer (some ⟨a, 0, none⟩)]) (.int .i64 1)).run Tryz.prog w = .ok (.pointer (some ⟨a, 0, none⟩)) w := by kernel_rfl

set_option maxRecDepth 100000 in
set_option maxHeartbeats 8000000 in
theorem none27_walk (k n o p t : Int) (hn : n < 9223372036854775808) (ho : o < 9223372036854775808) (w : World) : Calls Tryz.prog 4 #[.agg #[.int .i64 k, .int .i64 n, .int .i64 o, .int .i64 p, .int .i64 t]] w fun e w' => e = .returned (.bool true) ∧ Below w.heap.size w w' := by
  have hI0 := index_none27
  have hI1 := index_some27
  have HW0 : Hid (∀ a b c, MNoneAt w w.heap.size n o p t (some ⟨w.heap.size + 1, 0, none⟩) ((w.alloc (.cells #[.int .i64 k, .int .i64 n, .int .i64 o, .int .i64 p, .int .i64 t] 30)).alloc (.cells #[.bool false, a, b, c] 45))) := fun a b c => by
    have hc : ∀ i v, (#[.int .i64 k, .int .i64 n, .int .i64 o, .int .i64 p, .int .i64 t] : Array Value)[i]? = some v → ((w.alloc (.cells #[.int .i64 k, .int .i64 n, .int .i64 o, .int .i64 p, .int .i64 t] 30)).alloc (.cells #[.bool false, a, b, c] 45)).cell? ⟨w.heap.size, i, none⟩ = some v := fun i v hv => by
      rw [((Below.refl _ (w.alloc (.cells #[.int .i64 k, .int .i64 n, .int .i64 o, .int .i64 p, .int .i64 t] 30))).alloc (Nat.le_refl _) _).cell (p := ⟨w.heap.size, i, none⟩) (by simp), cell_of_row _ _ _ _ _ _ (heap_alloc_new w _)]; exact hv
    refine ⟨((Below.refl _ w).alloc (Nat.le_refl _) _).alloc (by simp) _, .inr ⟨_, rfl, by simp, ?_⟩, hc 1 _ rfl, hc 2 _ rfl, hc 3 _ rfl, hc 4 _ rfl⟩
    have := heap_alloc_new (w.alloc (.cells #[.int .i64 k, .int .i64 n, .int .i64 o, .int .i64 p, .int .i64 t] 30)) (.cells #[.bool false, a, b, c] 45)
    rw [World.size_alloc] at this
    rw [cell_of_row _ _ _ _ _ _ this]; rfl
  have HR : Hid (∀ wr q, MNoneAt w w.heap.size n o p t (some ⟨w.heap.size + 1, 0, none⟩) wr → NoStore wr q → MNoneRound w w.heap.size n o p t (some ⟨w.heap.size + 1, 0, none⟩) q wr) := fun wr q h hq => mnone_round hn ho h hq
  go_enter Tryz.func4, Tryz.ntmps4
  go_wp2_with fail
  have ha0 := HW0.out (.map none) (.slice none 0 0) (.slice none 0 0)
  have HA0 := Lib.hid ha0
  clear ha0 HW0
  generalize (w.alloc (.cells #[.int .i64 k, .int .i64 n, .int .i64 o, .int .i64 p, .int .i64 t] 30)).alloc (.cells #[.bool false, .map none, .slice none 0 0, .slice none 0 0] 45) = w0 at *
  refine wp_loop_rounds 3 ?_
  rw [rounds_succ]
  have HC0 := Lib.hid (HR.out w0 none HA0.out (.inl rfl))
  obtain ⟨_, _, c1, c2, c3, c4⟩ := HA0.out
  unfold MNoneRound at HC0
  go_wp2_with fail
  refine Calls.mono HC0.out ?_
  rintro e v1 ⟨rfl, hA0, hD⟩
  obtain ⟨_, _, d1, d2, d3, d4⟩ := id hA0
  have HD00 := Lib.hid hD
  clear hD hA0 HC0
  go_wp2_with fail
  refine Calls.mono HD00.out ?_
  rintro e v2 ⟨rfl, hA1, hD⟩
  obtain ⟨_, _, d1, d2, d3, d4⟩ := id hA1
  have HD01 := Lib.hid hD
  clear hD hA1 HD00
  go_wp2_with fail
  refine Calls.mono HD01.out ?_
  rintro e v3 ⟨rfl, hA2, hD⟩
  obtain ⟨_, _, d1, d2, d3, d4⟩ := id hA2
  have HD02 := Lib.hid hD
  clear hD hA2 HD01
  go_wp2_with fail
  refine Calls.mono HD02.out ?_
  rintro e v4 ⟨rfl, hA3, hD⟩
  obtain ⟨_, _, d1, d2, d3, d4⟩ := id hA3
  have HD03 := Lib.hid hD
  clear hD hA3 HD02
  go_wp2_with fail
  refine Calls.mono HD03.out ?_
  rintro e v5 ⟨rfl, hA4, hD⟩
  obtain ⟨_, _, d1, d2, d3, d4⟩ := id hA4
  have HD04 := Lib.hid hD
  clear hD hA4 HD03
  go_wp2_with fail
  refine Calls.mono HD04.out ?_
  rintro e v6 ⟨⟨ad, c, rfl⟩, hA5⟩
  have HA1 := Lib.hid hA5
  clear hA5 HD04
  go_wp2_with fail
  rw [rounds_succ]
  have HC1 := Lib.hid (HR.out v6 (some ⟨w.heap.size + 1, 0, none⟩) HA1.out HA1.out.2.1)
  obtain ⟨_, _, c1, c2, c3, c4⟩ := HA1.out
  unfold MNoneRound at HC1
  go_wp2_with fail
  refine Calls.mono HC1.out ?_
  rintro e u1 ⟨rfl, hA0, hD⟩
  obtain ⟨_, _, d1, d2, d3, d4⟩ := id hA0
  have HD10 := Lib.hid hD
  clear hD hA0 HC1
  go_wp2_with fail
  refine Calls.mono HD10.out ?_
  rintro e u2 ⟨rfl, hA1, hD⟩
  obtain ⟨_, _, d1, d2, d3, d4⟩ := id hA1
  have HD11 := Lib.hid hD
  clear hD hA1 HD10
  go_wp2_with fail
  refine Calls.mono HD11.out ?_
  rintro e u3 ⟨rfl, hA2, hD⟩
  obtain ⟨_, _, d1, d2, d3, d4⟩ := id hA2
  have HD12 := Lib.hid hD
  clear hD hA2 HD11
  go_wp2_with fail
  refine Calls.mono HD12.out ?_
  rintro e u4 ⟨rfl, hA3, hD⟩
  obtain ⟨_, _, d1, d2, d3, d4⟩ := id hA3
  have HD13 := Lib.hid hD
  clear hD hA3 HD12
  go_wp2_with fail
  refine Calls.mono HD13.out ?_
  rintro e u5 ⟨rfl, hA4, hD⟩
  obtain ⟨_, _, d1, d2, d3, d4⟩ := id hA4
  have HD14 := Lib.hid hD
  clear hD hA4 HD13
  go_wp2_with fail
  refine Calls.mono HD14.out ?_
  rintro e u6 ⟨⟨ad, c, rfl⟩, hA5⟩
  have HL := Lib.hid (lives27 u6)
  go_wp2_with fail
  rw [rounds_succ]
  go_wp2_with (go_at_call 7; refine HL.out.mono ?_; rintro e w5 ⟨rfl, hb5⟩)
  go_ret
  exact ⟨rfl, hA5.1.trans (hb5.mono hA5.1.size)⟩
end Go.Proofs.YtngaogfhijaaaaaGreat
