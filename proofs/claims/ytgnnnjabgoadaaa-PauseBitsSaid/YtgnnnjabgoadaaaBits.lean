/- What is proved here: the walk of the law PauseBits: it returns true, and changes nothing that was there. -/
import Derived.Test.YtgnnnjabgoadaaaPauseG
import Derived.Test.YtgnnnjabgoadaaaTells
namespace Go.Proofs.Ytgnnnjabgoadaaa
open Go.RowKit

theorem bitOf_list (i : Int) : bitOf i = 0 ∨ (1 ≤ i ∧ i ≤ 28 ∧ (bitOf i = 1 ∨ bitOf i = 2 ∨ bitOf i = 4 ∨ bitOf i = 8 ∨ bitOf i = 16 ∨ bitOf i = 32 ∨ bitOf i = 64 ∨ bitOf i = 128)) := by
  unfold bitOf
  split
  · rename_i h
    obtain ⟨n, rfl⟩ : ∃ n : Nat, i = n := ⟨i.toNat, by omega⟩
    rw [Int.toNat_natCast]
    have hl : ∀ m, m < 29 → bitTab.getD m 0 = 0 ∨ (1 ≤ m ∧ m ≤ 28 ∧ (bitTab.getD m 0 = 1 ∨ bitTab.getD m 0 = 2 ∨ bitTab.getD m 0 = 4 ∨ bitTab.getD m 0 = 8 ∨ bitTab.getD m 0 = 16 ∨ bitTab.getD m 0 = 32 ∨ bitTab.getD m 0 = 64 ∨ bitTab.getD m 0 = 128)) := by decide
    rcases hl n (by omega) with h1 | ⟨h1, h2, h3⟩
    · exact .inl h1
    · exact .inr ⟨by omega, by omega, h3⟩
  · exact .inl rfl

theorem bitOf_facts (i : Int) : 0 ≤ bitOf i ∧ bitOf i ≤ 128 ∧ bits BinOp.and IntKind.i64 (bitOf i) (bitOf i - 1) = 0 ∧ ((bitOf i = 0) ∨ (1 ≤ i ∧ i ≤ 28)) := by
  rcases bitOf_list i with h | ⟨h1, h2, h⟩
  · rw [h]; exact ⟨by decide, by decide, by decide, .inl rfl⟩
  · rcases h with h | h | h | h | h | h | h | h <;> (rw [h]; exact ⟨by decide, by decide, by decide, .inr ⟨h1, h2⟩⟩)

theorem and_comm64 (a b : Int) : bits BinOp.and IntKind.i64 a b = bits BinOp.and IntKind.i64 b a := by
  have : ∀ (x y : BitVec 64), x &&& y = y &&& x := fun x y => BitVec.and_comm x y
  show IntKind.i64.wrap ((BitVec.ofInt 64 a &&& BitVec.ofInt 64 b).toNat : Int) = IntKind.i64.wrap ((BitVec.ofInt 64 b &&& BitVec.ofInt 64 a).toNat : Int)
  rw [this]

/-- The settings' box, and a store of the law's own. -/
def BitsAt (w : World) (f0 f1 f2 f3 f4 f5 f6 : Int) (b : Nat) (s : St) (w1 : World) : Prop := BoxAt w f0 f1 f2 f3 f4 f5 f6 w1 ∧ ∃ L, SRep w1 b s L ∧ ∀ k ∈ L, w.heap.size + 1 ≤ k

theorem BitsAt.next {w w1 w2 : World} {f0 f1 f2 f3 f4 f5 f6 : Int} {b : Nat} {s : St} (h : BitsAt w f0 f1 f2 f3 f4 f5 f6 b s w1) (hb : Below w1.heap.size w1 w2) : BitsAt w f0 f1 f2 f3 f4 f5 f6 b s w2 := by
  obtain ⟨h1, L, h2, h3⟩ := h
  exact ⟨h1.next hb, L, h2.below hb, h3⟩

theorem BitsAt.step {w w1 w2 : World} {f0 f1 f2 f3 f4 f5 f6 : Int} {b : Nat} {s' : St} {L L' : List Nat} (h : BoxAt w f0 f1 f2 f3 f4 f5 f6 w1) (h3 : ∀ k ∈ L, w.heap.size + 1 ≤ k) (h2 : SRep w2 b s' L') (hS : Step w1 L w2 L') : BitsAt w f0 f1 f2 f3 f4 f5 f6 b s' w2 := by
  have hb := lt_of_at h.2
  have hB : Below w.heap.size w w2 := ⟨hS.fr.os.trans h.1.os, hS.fr.tape.trans h.1.tape, hS.fr.output.trans h.1.output, Nat.le_trans h.1.size hS.fr.size, fun k hk => (hS.fr.block k (Nat.lt_of_lt_of_le hk h.1.size) (fun hm => by have := h3 k hm; omega)).trans (h.1.block k hk)⟩
  refine ⟨⟨hB, hS.fr.at h.2 (fun hm => by have := h3 _ hm; omega)⟩, L', h2, fun k hk => ?_⟩
  rcases hS.own k hk with h4 | h4
  · exact h3 k h4
  · omega

set_option maxRecDepth 100000 in
set_option maxHeartbeats 8000000 in
theorem bits_walk (f0 f1 f2 f3 f4 f5 f6 i j : Int) (w : World) : Calls Try.prog 6 #[.agg #[.int .i64 f0, .int .i64 f1, .int .i64 f2, .int .i64 f3, .int .i64 f4, .int .i64 f5, .int .i64 f6], .int .i64 i, .int .i64 j] w fun e w' => e = .returned (.bool true) ∧ Below w.heap.size w w' := by
  obtain ⟨fl, hfl, hfl2⟩ : ∃ fl : Nat, IntKind.u8.wrap f6 = (fl : Int) ∧ fl < 256 := by
    have h1 : 0 ≤ IntKind.u8.wrap f6 ∧ IntKind.u8.wrap f6 < 256 := by rw [IntKind.wrap_u8]; omega
    exact ⟨(IntKind.u8.wrap f6).toNat, by omega, by omega⟩
  have hs0 : Sorted emptySt.ents := List.Pairwise.nil
  have hset : pauseSet emptySt (fl : Int) = (0, emptySt.setInt K42 fl) := by unfold pauseSet; rw [if_neg (by omega)]
  have hint : (emptySt.setInt K42 (fl : Int)).int K42 = fl := by rw [int_setInt _ hs0 _ _ K42_ne _ (by omega), if_pos rfl, Int.toNat_natCast]
  have hfit := St.Fit.empty.setInt K42 (fl : Int)
  have HM := boxAt_calls (w := w) (f0 := f0) (f1 := f1) (f2 := f2) (f3 := f3) (f4 := f4) (f5 := f5) (f6 := f6) (may_any f0 f1 f2 f3 f4 f5 f6 i j)
  have HL := boxAt_calls (w := w) (f0 := f0) (f1 := f1) (f2 := f2) (f3 := f3) (f4 := f4) (f5 := f5) (f6 := f6) lives35
  have HT := boxAt_calls (w := w) (f0 := f0) (f1 := f1) (f2 := f2) (f3 := f3) (f4 := f4) (f5 := f5) (f6 := f6) (bit_any i)
  have HW := Lib.hid (fun w => who_any i w)
  have HN : Hid (∀ w1, BoxAt w f0 f1 f2 f3 f4 f5 f6 w1 → Calls Try.prog 14 #[] w1 fun e w' => ∃ b, e = .returned (.pointer (some ⟨b, 0, none⟩)) ∧ BitsAt w f0 f1 f2 f3 f4 f5 f6 b emptySt w') := fun w1 h => by
    have hlt := lt_of_at h.2
    refine (new_any w1).mono fun e w' ⟨b, L, he, h1, h2, h3⟩ => ⟨b, he, h.next h2.below, L, h1, fun k hk => ?_⟩
    have := h3 k hk
    omega
  have HS : Hid (∀ w1 b, BitsAt w f0 f1 f2 f3 f4 f5 f6 b emptySt w1 → Calls Try.prog 9 #[.pointer (some ⟨b, 0, none⟩), .int .i64 fl] w1 fun e w' => e = .returned (.int .i64 0) ∧ BitsAt w f0 f1 f2 f3 f4 f5 f6 b (emptySt.setInt K42 fl) w') := fun w1 b h => by
    obtain ⟨h1, L, h2, h3⟩ := h
    have := psetG_any w1 b emptySt L fl h2 (by decide)
    rw [hset] at this
    exact this.mono fun e w' ⟨he, L', h4, h5⟩ => ⟨he, BitsAt.step h1 h3 h4 h5⟩
  have HP : ∀ i, Hid (∀ w1 b, BitsAt w f0 f1 f2 f3 f4 f5 f6 b (emptySt.setInt K42 fl) w1 → Calls Try.prog 11 #[.pointer (some ⟨b, 0, none⟩), .int .i64 i] w1 fun e w' => e = .returned (.bool (pausedOf i fl)) ∧ BitsAt w f0 f1 f2 f3 f4 f5 f6 b (emptySt.setInt K42 fl) w') := fun i w1 b h => by
    obtain ⟨h1, L, h2, h3⟩ := h
    have := pausedG_any w1 b _ L i h2 (hfit.val' _)
    rw [hint] at this
    exact this.mono fun e w' ⟨he, hb⟩ => ⟨he, h1.next hb, L, h2.below hb, h3⟩
  have HP2 := HP 2
  have HPi := HP i
  have hp2 : pausedOf 2 fl = false := by unfold pausedOf; rw [show bitOf 2 = 0 from rfl]; rw [and_comm64]; simp [bits]; rfl
  rw [hp2] at HP2
  have hpi : (bits BinOp.and IntKind.i64 (fl : Int) (bitOf i) != 0) = pausedOf i fl := by unfold pausedOf; rw [and_comm64]
  have HB : Hid (BoxAt w f0 f1 f2 f3 f4 f5 f6 (w.alloc (.cells #[.int .i64 f0, .int .i64 f1, .int .i64 f2, .int .i64 f3, .int .i64 f4, .int .i64 f5, .int .i64 f6] 52))) := ⟨(Below.refl _ w).alloc (Nat.le_refl _) _, heap_alloc_new w _⟩
  obtain ⟨hb0, hb1, hb2, hb3⟩ := bitOf_facts i
  have hmay : mayOf f0 f1 f2 i j = if whoOf i = 1 then j == f0 else if whoOf i = 2 then j == f1 else if whoOf i = 3 then j == f2 else true := rfl
  have hwho : whoOf i = 0 ∨ whoOf i = 1 ∨ whoOf i = 2 ∨ whoOf i = 3 := by
    unfold whoOf
    repeat' split
    all_goals simp
  clear HP hset hint hfit hs0 hp2
  generalize mayOf f0 f1 f2 i j = m at *
  generalize bitOf i = bt at *
  generalize whoOf i = x at *
  generalize pausedOf i fl = r at *
  generalize emptySt.setInt K42 (fl : Int) = s1 at *
  have d1 : decide (bt < 0) = false := by simp; omega
  have d2 : decide (128 < bt) = false := by simp; omega
  have d3 : (bits BinOp.and IntKind.i64 bt (bt - 1) != 0) = false := by rw [hb2]; rfl
  have hfl' : (fl : Int) < 256 := by omega
  clear hb2 hfl2
  have HMAY := Lib.hid hmay
  have HWHO := Lib.hid hwho
  clear hmay hwho
  by_cases hz : bt = 0
  all_goals
    first
      | (have d4 : (bt != 0) = false := by rw [hz]; rfl)
      | (have d4 : (bt != 0) = true := by rw [bne_iff_ne]; exact hz
         have d5 : decide (i < 1) = false := by simp; omega
         have d6 : decide (28 < i) = false := by simp; omega)
    clear hz hb3
    go_enter Try.func6, Try.ntmps6
    go_wp2_with fail
    generalize w.alloc (.cells #[.int .i64 f0, .int .i64 f1, .int .i64 f2, .int .i64 f3, .int .i64 f4, .int .i64 f5, .int .i64 f6] 52) = w0 at *
    obtain ⟨c0, c1, c2, c3, c4, c5, c6⟩ := HB.out.cells
    go_wp2_with fail
    refine (HT.out _ HB.out).mono ?_
    rintro e w1 ⟨rfl, hT1⟩
    have HT1 := Lib.hid hT1
    clear hT1 c0 c1 c2 c3 c4 c5 c6
    go_wp2_with fail
    refine (HN.out _ HT1.out).mono ?_
    rintro e w2 ⟨b, rfl, hT2⟩
    have HT2 := Lib.hid hT2
    clear hT2
    go_wp2_with fail
    refine (HS.out _ b HT2.out).mono ?_
    rintro e w3 ⟨rfl, hT3⟩
    have HT3 := Lib.hid hT3
    clear hT3
    go_wp2_with fail
    refine (HP2.out _ b HT3.out).mono ?_
    rintro e w4 ⟨rfl, hT4⟩
    have HT4 := Lib.hid hT4
    clear hT4
    go_wp2_with fail
    refine (HPi.out _ b HT4.out).mono ?_
    rintro e w5 ⟨rfl, hT5⟩
    have HT5 := Lib.hid hT5.1
    clear hT5
    go_wp2_with fail
    refine (HW.out _).mono ?_
    rintro e w6 ⟨rfl, rfl⟩
    obtain ⟨c0, c1, c2, c3, c4, c5, c6⟩ := HT5.out.cells
  all_goals
    rcases HWHO.out with hx | hx | hx | hx
    all_goals
      have hm := HMAY.out
      subst hx
      simp only [if_true, if_false, show ¬ ((0 : Int) = 1) by decide, show ¬ ((0 : Int) = 2) by decide, show ¬ ((0 : Int) = 3) by decide, show ¬ ((2 : Int) = 1) by decide, show ¬ ((3 : Int) = 1) by decide, show ¬ ((3 : Int) = 2) by decide] at hm
      clear HMAY HWHO
    · subst hm
      go_wp2_with fail
      refine (HM.out _ HT5.out).mono ?_
      rintro e w7 ⟨rfl, hT7⟩
      have HT7 := Lib.hid hT7
      obtain ⟨c0, c1, c2, c3, c4, c5, c6⟩ := hT7.cells
      clear hT7
      go_wp2_with fail
      refine (HM.out _ HT7.out).mono ?_
      rintro e w8 ⟨rfl, hT8⟩
      have HT8 := Lib.hid hT8
      obtain ⟨c0, c1, c2, c3, c4, c5, c6⟩ := hT8.cells
      clear hT8
      go_wp2_with fail
      refine (HL.out _ HT8.out).mono ?_
      rintro e w9 ⟨rfl, hT9⟩
      have HT9 := Lib.hid hT9
      clear hT9
      go_wp2
      go_ret
      exact ⟨rfl, HT9.out.1⟩
    · cases hj : (j == f0) with
      | true =>
        have hj2 : (j != f0) = false := by rw [bne, hj]; rfl
        rw [hj] at hm
        subst hm
        go_wp2_with fail
        refine (HM.out _ HT5.out).mono ?_
        rintro e w7 ⟨rfl, hT7⟩
        have HT7 := Lib.hid hT7
        obtain ⟨c0, c1, c2, c3, c4, c5, c6⟩ := hT7.cells
        clear hT7
        go_wp2_with fail
        refine (HL.out _ HT7.out).mono ?_
        rintro e w9 ⟨rfl, hT9⟩
        have HT9 := Lib.hid hT9
        clear hT9
        go_wp2
        go_ret
        exact ⟨rfl, HT9.out.1⟩
      | false =>
        have hj2 : (j != f0) = true := by rw [bne, hj]; rfl
        rw [hj] at hm
        subst hm
        go_wp2_with fail
        refine (HM.out _ HT5.out).mono ?_
        rintro e w7 ⟨rfl, hT7⟩
        have HT7 := Lib.hid hT7
        obtain ⟨c0, c1, c2, c3, c4, c5, c6⟩ := hT7.cells
        clear hT7
        go_wp2_with fail
        refine (HL.out _ HT7.out).mono ?_
        rintro e w9 ⟨rfl, hT9⟩
        have HT9 := Lib.hid hT9
        clear hT9
        go_wp2
        go_ret
        exact ⟨rfl, HT9.out.1⟩
    · cases hj : (j == f1) with
      | true =>
        have hj2 : (j != f1) = false := by rw [bne, hj]; rfl
        rw [hj] at hm
        subst hm
        go_wp2_with fail
        refine (HM.out _ HT5.out).mono ?_
        rintro e w7 ⟨rfl, hT7⟩
        have HT7 := Lib.hid hT7
        obtain ⟨c0, c1, c2, c3, c4, c5, c6⟩ := hT7.cells
        clear hT7
        go_wp2_with fail
        refine (HL.out _ HT7.out).mono ?_
        rintro e w9 ⟨rfl, hT9⟩
        have HT9 := Lib.hid hT9
        clear hT9
        go_wp2
        go_ret
        exact ⟨rfl, HT9.out.1⟩
      | false =>
        have hj2 : (j != f1) = true := by rw [bne, hj]; rfl
        rw [hj] at hm
        subst hm
        go_wp2_with fail
        refine (HM.out _ HT5.out).mono ?_
        rintro e w7 ⟨rfl, hT7⟩
        have HT7 := Lib.hid hT7
        obtain ⟨c0, c1, c2, c3, c4, c5, c6⟩ := hT7.cells
        clear hT7
        go_wp2_with fail
        refine (HL.out _ HT7.out).mono ?_
        rintro e w9 ⟨rfl, hT9⟩
        have HT9 := Lib.hid hT9
        clear hT9
        go_wp2
        go_ret
        exact ⟨rfl, HT9.out.1⟩
    · cases hj : (j == f2) with
      | true =>
        have hj2 : (j != f2) = false := by rw [bne, hj]; rfl
        rw [hj] at hm
        subst hm
        go_wp2_with fail
        refine (HM.out _ HT5.out).mono ?_
        rintro e w7 ⟨rfl, hT7⟩
        have HT7 := Lib.hid hT7
        obtain ⟨c0, c1, c2, c3, c4, c5, c6⟩ := hT7.cells
        clear hT7
        go_wp2_with fail
        refine (HL.out _ HT7.out).mono ?_
        rintro e w9 ⟨rfl, hT9⟩
        have HT9 := Lib.hid hT9
        clear hT9
        go_wp2
        go_ret
        exact ⟨rfl, HT9.out.1⟩
      | false =>
        have hj2 : (j != f2) = true := by rw [bne, hj]; rfl
        rw [hj] at hm
        subst hm
        go_wp2_with fail
        refine (HM.out _ HT5.out).mono ?_
        rintro e w7 ⟨rfl, hT7⟩
        have HT7 := Lib.hid hT7
        obtain ⟨c0, c1, c2, c3, c4, c5, c6⟩ := hT7.cells
        clear hT7
        go_wp2_with fail
        refine (HL.out _ HT7.out).mono ?_
        rintro e w9 ⟨rfl, hT9⟩
        have HT9 := Lib.hid hT9
        clear hT9
        go_wp2
        go_ret
        exact ⟨rfl, HT9.out.1⟩
end Go.Proofs.Ytgnnnjabgoadaaa
