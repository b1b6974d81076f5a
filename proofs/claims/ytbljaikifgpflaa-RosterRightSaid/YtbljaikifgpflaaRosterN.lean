/- What is proved here: the roster where no store was made; the law's own lives; RosterNone's walk. No condition. -/
import Derived.Test.YtbljaikifgpflaaEachC
import Derived.Test.YtbljaikifgpflaaRoster2
namespace Go.Proofs.Ytbljaikifgpflaa
open Go.RowKit

set_option maxRecDepth 100000 in
set_option maxHeartbeats 1000000 in
theorem register_not (w : World) (q : Option Addr) (a : Int) (h : NoStore w q) : Calls Try.prog 13 #[.pointer q, .int .i64 a] w fun e w' => e = .returned (.int .i64 1) ∧ w = w' := by
  have HM := Lib.hid h.made
  clear h
  go_enter Try.func13, Try.ntmps13
  go_wp2_with (go_at_call 29; refine HM.out.mono ?_; rintro e w' ⟨rfl, rfl⟩)
  go_ret
  exact ⟨rfl, rfl⟩

set_option maxRecDepth 100000 in
set_option maxHeartbeats 1000000 in
theorem choose_not (w : World) (q : Option Addr) (a o : Int) (h : NoStore w q) : Calls Try.prog 14 #[.pointer q, .int .i64 a, .int .i64 o] w fun e w' => e = .returned (.int .i64 1) ∧ w = w' := by
  have HM := Lib.hid h.made
  clear h
  go_enter Try.func14, Try.ntmps14
  go_wp2_with (go_at_call 29; refine HM.out.mono ?_; rintro e w' ⟨rfl, rfl⟩)
  go_ret
  exact ⟨rfl, rfl⟩

set_option maxRecDepth 100000 in
set_option maxHeartbeats 1000000 in
theorem leave_not (w : World) (q : Option Addr) (a : Int) (h : NoStore w q) : Calls Try.prog 15 #[.pointer q, .int .i64 a] w fun e w' => e = .returned (.int .i64 1) ∧ w = w' := by
  have HM := Lib.hid h.made
  clear h
  go_enter Try.func15, Try.ntmps15
  go_wp2_with (go_at_call 29; refine HM.out.mono ?_; rintro e w' ⟨rfl, rfl⟩)
  go_ret
  exact ⟨rfl, rfl⟩

set_option maxRecDepth 100000 in
set_option maxHeartbeats 1000000 in
theorem isR_not (w : World) (q : Option Addr) (a : Int) (ha : a < 9223372036854775808) (h : NoStore w q) : Calls Try.prog 11 #[.pointer q, .int .i64 a] w fun e w' => e = .returned (.bool false) ∧ Below w.heap.size w w' := by
  have HK := Lib.hid (key_new1 8 (by omega) (by omega) a ha w)
  have HI : Hid (∀ w1 k, Below w.heap.size w w1 → Calls Try.prog 27 #[.pointer q, .string k] w1 fun e w' => e = .returned (.int .i64 0) ∧ w1 = w') := fun w1 k h1 => int_none w1 q k ((h.below h1).get _)
  clear h ha
  go_enter Try.func11, Try.ntmps11
  go_wp2_with (first | (go_at_call 28; refine Calls.mono HK.out ?_; rintro e w1 ⟨rfl, h1⟩) | (go_at_call 27; refine (HI.out _ _ h1).mono ?_; rintro e w' ⟨rfl, rfl⟩))
  go_ret
  exact ⟨rfl, h1⟩

set_option maxRecDepth 100000 in
set_option maxHeartbeats 1000000 in
theorem ofR_not (w : World) (q : Option Addr) (a : Int) (ha : a < 9223372036854775808) (h : NoStore w q) : Calls Try.prog 10 #[.pointer q, .int .i64 a] w fun e w' => e = .returned (.int .i64 0) ∧ Below w.heap.size w w' := by
  have HK := Lib.hid (key_new1 9 (by omega) (by omega) a ha w)
  have HI : Hid (∀ w1 k, Below w.heap.size w w1 → Calls Try.prog 27 #[.pointer q, .string k] w1 fun e w' => e = .returned (.int .i64 0) ∧ w1 = w') := fun w1 k h1 => int_none w1 q k ((h.below h1).get _)
  clear h ha
  go_enter Try.func10, Try.ntmps10
  go_wp2_with (first | (go_at_call 28; refine Calls.mono HK.out ?_; rintro e w1 ⟨rfl, h1⟩) | (go_at_call 27; refine (HI.out _ _ h1).mono ?_; rintro e w' ⟨rfl, rfl⟩))
  go_ret
  exact ⟨rfl, h1⟩

/-- The example's stores. -/
def lv1 : St := (rRegister emptySt 7).2
def lv2 : St := (rChoose lv1 8 7).2
def lv3 : St := (rLeave lv2 8).2
theorem lv_1 : (rRegister emptySt 7).1 = 0 := by kernel_rfl
theorem lv_2 : (rChoose lv1 8 7).1 = 0 := by kernel_rfl
theorem lv_3 : (rLeave lv2 8).1 = 0 := by kernel_rfl
theorem lv_4 : rOf lv3 7 = 7 := by kernel_rfl
theorem lv_5 : (rLeave lv3 7).1 = 10 := by kernel_rfl

theorem step_fresh {w w1 w2 : World} {L L' : List Nat} (hb : Below w.heap.size w w1) (hL : ∀ k ∈ L, w.heap.size ≤ k) (h : Step w1 L w2 L') : Below w.heap.size w w2 ∧ ∀ k ∈ L', w.heap.size ≤ k := by
  refine ⟨⟨h.fr.os.trans hb.os, h.fr.tape.trans hb.tape, h.fr.output.trans hb.output, Nat.le_trans hb.size h.fr.size, fun k hk => ?_⟩, fun k hk => ?_⟩
  · rw [h.fr.block k (Nat.lt_of_lt_of_le hk hb.size) (fun hm => by have := hL k hm; omega)]
    exact hb.block k hk
  · rcases h.own k hk with h1 | h1
    · exact hL k h1
    · exact Nat.le_trans hb.size h1

set_option maxRecDepth 100000 in
set_option maxHeartbeats 1000000 in
theorem lives21 (w : World) : Calls Try.prog 6 #[] w fun e w' => e = .returned (.bool true) ∧ Below w.heap.size w w' := by
  have HN : Hid (Calls Try.prog 7 #[] w fun e w1 => ∃ b, e = .returned (.pointer (some ⟨b, 0, none⟩)) ∧
      Calls Try.prog 13 #[.pointer (some ⟨b, 0, none⟩), .int .i64 7] w1 fun e w2 => e = .returned (.int .i64 0) ∧
      Calls Try.prog 14 #[.pointer (some ⟨b, 0, none⟩), .int .i64 8, .int .i64 7] w2 fun e w3 => e = .returned (.int .i64 0) ∧
      Calls Try.prog 15 #[.pointer (some ⟨b, 0, none⟩), .int .i64 8] w3 fun e w4 => e = .returned (.int .i64 0) ∧
      Calls Try.prog 10 #[.pointer (some ⟨b, 0, none⟩), .int .i64 7] w4 fun e w5 => e = .returned (.int .i64 7) ∧
      Calls Try.prog 15 #[.pointer (some ⟨b, 0, none⟩), .int .i64 7] w5 fun e w6 => e = .returned (.int .i64 10) ∧ Below w.heap.size w w6) := by
    have f1 := rRegister_fit St.Fit.empty 7
    have f2 := rChoose_fit f1 8 7
    have f3 := rLeave_fit f2 8
    refine (new_any w).mono fun e w1 ⟨b, L, he, h1, h2, h3⟩ => ⟨b, he, ?_⟩
    refine (register_any w1 b emptySt L 0 7 (by decide) h1 St.Fit.empty (by decide)).mono fun e w2 ⟨he, L2, s2, t2⟩ => ⟨by rw [he, lv_1], ?_⟩
    obtain ⟨b2, l2⟩ := step_fresh h2.below h3 t2
    refine (choose_any w2 b _ L2 4 8 7 (by decide) (by decide) s2 f1 (by decide)).mono fun e w3 ⟨he, L3, s3, t3⟩ => ⟨by rw [he]; exact congrArg (fun x => Ending.returned (.int .i64 x)) lv_2, ?_⟩
    obtain ⟨b3, l3⟩ := step_fresh b2 l2 t3
    refine (leaveR_any w3 b _ L3 8 8 (by decide) s3 f2 (by decide)).mono fun e w4 ⟨he, L4, s4, t4⟩ => ⟨by rw [he]; exact congrArg (fun x => Ending.returned (.int .i64 x)) lv_3, ?_⟩
    obtain ⟨b4, l4⟩ := step_fresh b3 l3 t4
    refine (ofR_any w4 b _ L4 12 7 (by decide) s4 f3 (by decide)).mono fun e w5 ⟨he, b5⟩ => ⟨by rw [he]; exact congrArg (fun x : Nat => Ending.returned (.int .i64 x)) lv_4, ?_⟩
    have b5' := b4.trans (b5.mono b4.size)
    refine (leaveR_any w5 b _ L4 12 7 (by decide) (s4.below b5) f3 (by decide)).mono fun e w6 ⟨he, L6, s6, t6⟩ => ⟨by rw [he]; exact congrArg (fun x => Ending.returned (.int .i64 x)) lv_5, ?_⟩
    exact (step_fresh b5' l4 t6).1
  go_enter Try.func6, Try.ntmps6
  go_wp2_with fail
  refine Calls.mono HN.out ?_
  rintro e w1 ⟨b, rfl, hC⟩
  have H1 := Lib.hid hC
  clear hC HN
  go_wp2_with fail
  refine Calls.mono H1.out ?_
  rintro e w2 ⟨rfl, hC⟩
  have H2 := Lib.hid hC
  clear hC H1
  go_wp2_with fail
  refine Calls.mono H2.out ?_
  rintro e w3 ⟨rfl, hC⟩
  have H3 := Lib.hid hC
  clear hC H2
  go_wp2_with fail
  refine Calls.mono H3.out ?_
  rintro e w4 ⟨rfl, hC⟩
  have H4 := Lib.hid hC
  clear hC H3
  go_wp2_with fail
  refine Calls.mono H4.out ?_
  rintro e w5 ⟨rfl, hC⟩
  have H5 := Lib.hid hC
  clear hC H4
  go_wp2_with fail
  refine Calls.mono H5.out ?_
  rintro e w6 ⟨rfl, hB⟩
  go_wp2_with fail
  go_ret
  exact ⟨rfl, hB⟩

/-- Between two rounds: nothing that was there has turned; no store was made; the numbers lie in their box. -/
abbrev NoneAt (w : World) (bx : Nat) (y z : Int) (q0 : Option Addr) (wr : World) : Prop :=
  Below w.heap.size w wr ∧ NoStore wr q0 ∧ wr.cell? ⟨bx, 1, none⟩ = some (.int .i64 y) ∧ wr.cell? ⟨bx, 2, none⟩ = some (.int .i64 z)

theorem NoneAt.below {w wr w' : World} {bx : Nat} {y z : Int} {q0 : Option Addr} (h : NoneAt w bx y z q0 wr) (hb : Below wr.heap.size wr w') : NoneAt w bx y z q0 w' :=
  ⟨h.1.trans (hb.mono h.1.size), h.2.1.below hb, by rw [hb.cell (World.block_lt_of_cell? wr _ h.2.2.1)]; exact h.2.2.1, by rw [hb.cell (World.block_lt_of_cell? wr _ h.2.2.2)]; exact h.2.2.2⟩

theorem row_none' {w : World} {b : Nat} {v : Value} (h : w.ownsRow b 3 1 v 0 []) : ∃ a c, v = .slice a 0 c := by
  rcases h.2 with ⟨rfl, _⟩ | ⟨g, cap, cur, rfl, _⟩
  · exact ⟨_, _, rfl⟩
  · exact ⟨_, _, rfl⟩

/-- One round: the seven calls. -/
def NoneRound (w : World) (bx : Nat) (y z : Int) (q0 q : Option Addr) (wr : World) : Prop :=
  Calls Try.prog 13 #[.pointer q, .int .i64 y] wr fun e w1 => e = .returned (.int .i64 1) ∧ NoneAt w bx y z q0 w1 ∧
  Calls Try.prog 14 #[.pointer q, .int .i64 y, .int .i64 z] w1 fun e w2 => e = .returned (.int .i64 1) ∧ NoneAt w bx y z q0 w2 ∧
  Calls Try.prog 15 #[.pointer q, .int .i64 y] w2 fun e w3 => e = .returned (.int .i64 1) ∧ NoneAt w bx y z q0 w3 ∧
  Calls Try.prog 11 #[.pointer q, .int .i64 y] w3 fun e w4 => e = .returned (.bool false) ∧ NoneAt w bx y z q0 w4 ∧
  Calls Try.prog 10 #[.pointer q, .int .i64 y] w4 fun e w5 => e = .returned (.int .i64 0) ∧ NoneAt w bx y z q0 w5 ∧
  Calls Try.prog 12 #[.pointer q, .int .i64 z] w5 fun e w6 => (∃ a c, e = .returned (.slice a 0 c)) ∧ NoneAt w bx y z q0 w6 ∧
  Calls Try.prog 9 #[.pointer q] w6 fun e w7 => (∃ a c, e = .returned (.slice a 0 c)) ∧ NoneAt w bx y z q0 w7

theorem none_round {w wr : World} {bx : Nat} {y z : Int} {q0 q : Option Addr} (hy : y < 9223372036854775808) (h : NoneAt w bx y z q0 wr) (hq : NoStore wr q) : NoneRound w bx y z q0 q wr.drew := by
  have hd : Below wr.heap.size wr wr.drew := ⟨rfl, rfl, rfl, Nat.le_refl _, fun _ _ => rfl⟩
  have h0 := h.below hd
  have q0' := hq.below hd
  have heach : eachE 8 ⟨[], []⟩ = [] := rfl
  have heach9 : withE z (eachE 9 ⟨[], []⟩) = [] := rfl
  refine (register_not _ q y q0').mono fun e w1 ⟨he, e1⟩ => ⟨he, by subst e1; exact h0, ?_⟩
  subst e1
  refine (choose_not _ q y z q0').mono fun e w2 ⟨he, e2⟩ => ⟨he, by subst e2; exact h0, ?_⟩
  subst e2
  refine (leave_not _ q y q0').mono fun e w3 ⟨he, e3⟩ => ⟨he, by subst e3; exact h0, ?_⟩
  subst e3
  refine (isR_not _ q y hy q0').mono fun e w4 ⟨he, b4⟩ => ⟨he, h0.below b4, ?_⟩
  have h4 := h0.below b4
  have q4 := q0'.below b4
  refine (ofR_not _ q y hy q4).mono fun e w5 ⟨he, b5⟩ => ⟨he, h4.below b5, ?_⟩
  have h5 := h4.below b5
  have q5 := q4.below b5
  refine (stakers_any w5 q z ⟨[], []⟩ (ReadAt.not q5) (by decide) (by simp)).mono fun e w6 ⟨v, he, hr, b6⟩ => ?_
  rw [heach9] at hr
  obtain ⟨a, c, rfl⟩ := row_none' hr
  refine ⟨⟨a, c, he⟩, h5.below b6, ?_⟩
  have h6 := h5.below b6
  have q6 := q5.below b6
  refine (operators_any w6 q ⟨[], []⟩ (ReadAt.not q6) (by decide) (by simp)).mono fun e w7 ⟨v, he, hr, b7⟩ => ?_
  rw [heach] at hr
  obtain ⟨a, c, rfl⟩ := row_none' hr
  exact ⟨⟨a, c, he⟩, h6.below b7⟩

theorem index_none21 (a : Nat) (w : World) : (Instr.index 45 (.agg #[.pointer none, .pointer (some ⟨a, 0, none⟩)]) (.int .i64 0)).run Try.prog w = .ok (.pointer none) w := by kernel_rfl
theorem index_some21 (a : Nat) (w : World) : (Instr.index 45 (.agg #[.pointer none, .pointer (some ⟨a, 0, none⟩)]) (.int .i64 1)).run Try.prog w = .ok (.pointer (some ⟨a, 0, none⟩)) w := by kernel_rfl

set_option maxRecDepth 100000 in
set_option maxHeartbeats 4000000 in
theorem none21_walk (x y z : Int) (hy : y < 9223372036854775808) (w : World) : Calls Try.prog 4 #[.agg #[.int .i64 x, .int .i64 y, .int .i64 z]] w fun e w' => e = .returned (.bool true) ∧ Below w.heap.size w w' := by
  have hI0 := index_none21
  have hI1 := index_some21
  have HW0 : Hid (∀ a b c, NoneAt w w.heap.size y z (some ⟨w.heap.size + 1, 0, none⟩) ((w.alloc (.cells #[.int .i64 x, .int .i64 y, .int .i64 z] 32)).alloc (.cells #[.bool false, a, b, c] 44))) := fun a b c => by
    refine ⟨((Below.refl _ w).alloc (Nat.le_refl _) _).alloc (by simp) _, .inr ⟨_, rfl, by simp, ?_⟩, ?_, ?_⟩
    · have := heap_alloc_new (w.alloc (.cells #[.int .i64 x, .int .i64 y, .int .i64 z] 32)) (.cells #[.bool false, a, b, c] 44)
      rw [World.size_alloc] at this
      rw [cell_of_row _ _ _ _ _ _ this]; rfl
    · rw [((Below.refl _ (w.alloc (.cells #[.int .i64 x, .int .i64 y, .int .i64 z] 32))).alloc (Nat.le_refl _) _).cell (p := ⟨w.heap.size, 1, none⟩) (by simp), cell_of_row _ _ _ _ _ _ (heap_alloc_new w _)]; rfl
    · rw [((Below.refl _ (w.alloc (.cells #[.int .i64 x, .int .i64 y, .int .i64 z] 32))).alloc (Nat.le_refl _) _).cell (p := ⟨w.heap.size, 2, none⟩) (by simp), cell_of_row _ _ _ _ _ _ (heap_alloc_new w _)]; rfl
  have HR : Hid (∀ wr q, NoneAt w w.heap.size y z (some ⟨w.heap.size + 1, 0, none⟩) wr → NoStore wr q → NoneRound w w.heap.size y z (some ⟨w.heap.size + 1, 0, none⟩) q wr.drew) := fun wr q h hq => none_round hy h hq
  go_enter Try.func4, Try.ntmps4
  go_wp2_with fail
  have ha0 := HW0.out (.map none) (.slice none 0 0) (.slice none 0 0)
  have HA0 := Lib.hid ha0
  clear ha0 HW0
  generalize (w.alloc (.cells #[.int .i64 x, .int .i64 y, .int .i64 z] 32)).alloc (.cells #[.bool false, .map none, .slice none 0 0, .slice none 0 0] 44) = w0 at *
  refine wp_loop_rounds 3 ?_
  rw [rounds_succ]
  have HC0 := Lib.hid (HR.out w0 none HA0.out (.inl rfl))
  obtain ⟨_, _, hy0, hz0⟩ := HA0.out
  unfold NoneRound at HC0
  go_upto_region 5 with fail
  go_cut [53] from 10 (fun s wc => s = .bool false ∧ NoneAt w w.heap.size y z (some ⟨w.heap.size + 1, 0, none⟩) wc)
  case' first =>
    go_region_held3 (fun w' => w'.cell? ⟨w.heap.size, 1, none⟩ = some (.int .i64 y) ∧ w'.cell? ⟨w.heap.size, 2, none⟩ = some (.int .i64 z)) (go_keep)
      (first
        | (go_at_call 13; refine Calls.mono HC0.out ?_; rintro e v1 ⟨rfl, ⟨_, _, hy1, hz1⟩, hD⟩; have HD1 := Lib.hid hD; clear hD)
        | (go_at_call 14; refine Calls.mono HD1.out ?_; rintro e v2 ⟨rfl, ⟨_, _, hy2, hz2⟩, hD⟩; have HD2 := Lib.hid hD; clear hD)
        | (go_at_call 15; refine Calls.mono HD2.out ?_; rintro e v3 ⟨rfl, ⟨_, _, hy3, hz3⟩, hD⟩; have HD3 := Lib.hid hD; clear hD)
        | (go_at_call 11; refine Calls.mono HD3.out ?_; rintro e v4 ⟨rfl, ⟨_, _, hy4, hz4⟩, hD⟩; have HD4 := Lib.hid hD; clear hD)
        | (go_at_call 10; refine Calls.mono HD4.out ?_; rintro e v5 ⟨rfl, ⟨_, _, hy5, hz5⟩, hD⟩; have HD5 := Lib.hid hD; clear hD)
        | (go_at_call 12; refine Calls.mono HD5.out ?_; rintro e v6 ⟨⟨a6, c6, rfl⟩, ⟨_, _, hy6, hz6⟩, hD⟩; have HD6 := Lib.hid hD; clear hD)
        | (go_at_call 9; refine Calls.mono HD6.out ?_; rintro e v7 ⟨⟨a7, c7, rfl⟩, hA7⟩; obtain ⟨_, _, hy7, hz7⟩ := id hA7))
    all_goals
      go_wp2_with fail
      go_meet
      case rel => exact ⟨by go_num, hA7⟩
  case' rest =>
    obtain ⟨rfl, hA⟩ := hcut
    have HA1 := Lib.hid hA
    clear hA HC0 hy0 hz0 HA0
    go_wp2_with fail
    rw [rounds_succ]
    have HC1 := Lib.hid (HR.out wc (some ⟨w.heap.size + 1, 0, none⟩) HA1.out HA1.out.2.1)
    obtain ⟨_, _, hy0', hz0'⟩ := HA1.out
    unfold NoneRound at HC1
    go_upto_region 5 with fail
    go_cut [53] from 10 (fun s wc => s = .bool false ∧ NoneAt w w.heap.size y z (some ⟨w.heap.size + 1, 0, none⟩) wc)
    case' first =>
      go_region_held3 (fun w' => w'.cell? ⟨w.heap.size, 1, none⟩ = some (.int .i64 y) ∧ w'.cell? ⟨w.heap.size, 2, none⟩ = some (.int .i64 z)) (go_keep)
        (first
          | (go_at_call 13; refine Calls.mono HC1.out ?_; rintro e v1 ⟨rfl, ⟨_, _, hy1, hz1⟩, hD⟩; have HD1 := Lib.hid hD; clear hD)
          | (go_at_call 14; refine Calls.mono HD1.out ?_; rintro e v2 ⟨rfl, ⟨_, _, hy2, hz2⟩, hD⟩; have HD2 := Lib.hid hD; clear hD)
          | (go_at_call 15; refine Calls.mono HD2.out ?_; rintro e v3 ⟨rfl, ⟨_, _, hy3, hz3⟩, hD⟩; have HD3 := Lib.hid hD; clear hD)
          | (go_at_call 11; refine Calls.mono HD3.out ?_; rintro e v4 ⟨rfl, ⟨_, _, hy4, hz4⟩, hD⟩; have HD4 := Lib.hid hD; clear hD)
          | (go_at_call 10; refine Calls.mono HD4.out ?_; rintro e v5 ⟨rfl, ⟨_, _, hy5, hz5⟩, hD⟩; have HD5 := Lib.hid hD; clear hD)
          | (go_at_call 12; refine Calls.mono HD5.out ?_; rintro e v6 ⟨⟨a6, c6, rfl⟩, ⟨_, _, hy6, hz6⟩, hD⟩; have HD6 := Lib.hid hD; clear hD)
          | (go_at_call 9; refine Calls.mono HD6.out ?_; rintro e v7 ⟨⟨a7, c7, rfl⟩, hA7⟩; obtain ⟨_, _, hy7, hz7⟩ := id hA7))
      all_goals
        go_wp2_with fail
        go_meet
        case rel => exact ⟨by go_num, hA7⟩
    case' rest =>
      obtain ⟨rfl, hA⟩ := hcut
      have HL := Lib.hid (lives21 wc)
      clear HC1 hy0' hz0' HA1
      go_wp2_with fail
      rw [rounds_succ]
      go_wp2_with (go_at_call 6; refine HL.out.mono ?_; rintro e w5 ⟨rfl, hb5⟩)
      go_ret
      exact ⟨rfl, hA.1.trans (hb5.mono hA.1.size)⟩
end Go.Proofs.Ytbljaikifgpflaa
