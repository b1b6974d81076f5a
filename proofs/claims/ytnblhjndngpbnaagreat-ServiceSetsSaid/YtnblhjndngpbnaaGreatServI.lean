/- What is proved here: service.Include over a store, and the reference's. Their conditions: numbers below 2^63, sizes; no entry lies at the empty key. -/
import Derived.Test.YtnblhjndngpbnaaGreatServP
import Derived.Test.YtnblhjndngpbnaaGreatServE
namespace Go.Proofs.YtnblhjndngpbnaaGreat
open Go.RowKit

theorem row_form {w : World} {base e n k : Nat} {v : Value} {xs : List Value} (h : w.ownsRow base e n v k xs) : ∃ a c, v = .slice a k c := by
  rcases h.2 with ⟨rfl, rfl⟩ | ⟨g, cap, cur, rfl, _⟩
  · exact ⟨none, 0, rfl⟩
  · exact ⟨some ⟨g, 0, none⟩, cap, rfl⟩

set_option maxRecDepth 100000 in
set_option maxHeartbeats 4000000 in
theorem sinc_any (w : World) (b : Nat) (s : St) (L : List Nat) (f : Nat) (a n g : Int) (ha : a < 9223372036854775808) (hn : n < 9223372036854775808) (hg : g < 9223372036854775808) (h : SRep w b s L) (hf : s.Fit f) (hm : f < 10000000000) (hkey : ∀ x ∈ s.ents, x.1.size < 1000000000000) (hE : NoE s) :
    Calls Tryz.prog 31 #[.pointer (some ⟨b, 0, none⟩), .int .i64 a, .int .i64 n, .int .i64 g] w (RetSt w b L (.int .i64 (sInc s a n g).1) (sInc s a n g).2) := by
  have hz : s.size < 1000000000000 := Nat.lt_of_le_of_lt hf.size (by omega)
  have HT : Hid (∀ w1, Below w.heap.size w w1 → Calls Tryz.prog 10 #[.pointer (some ⟨b, 0, none⟩), .int .i64 a, .int .i64 n] w1 fun e w' => e = .returned (.bool (sThere s a n)) ∧ Below w.heap.size w w') := fun w1 h1 => (sthere_any w1 b s L f a n ha (h.below h1) hf (by omega)).mono fun e w' ⟨he, hb⟩ => ⟨he, bl_then h1 hb⟩
  have HN : Hid (∀ w1, Below w.heap.size w w1 → Calls Tryz.prog 56 #[.pointer (some ⟨b, 0, none⟩), .int .i64 g] w1 fun e w' => e = .returned (.bool (sKnown s g)) ∧ Below w.heap.size w w') := fun w1 h1 => (known_all w1 b s L f g hg (h.below h1) hf).mono fun e w' ⟨he, hb⟩ => ⟨he, bl_then h1 hb⟩
  have HH : Hid (∀ w1, Below w.heap.size w w1 → Calls Tryz.prog 12 #[.pointer (some ⟨b, 0, none⟩), .int .i64 a, .int .i64 n, .int .i64 g] w1 fun e w' => e = .returned (.bool (sHas s a n g)) ∧ Below w.heap.size w w') := fun w1 h1 => (shas_any w1 b s L f a n g ha hn hg (h.below h1) hf (by omega)).mono fun e w' ⟨he, hb⟩ => ⟨he, bl_then h1 hb⟩
  have HS : Hid (∀ w1, Below w.heap.size w w1 → Calls Tryz.prog 9 #[.pointer (some ⟨b, 0, none⟩), .int .i64 a, .int .i64 n] w1 fun e w' => ∃ ad c, e = .returned (.slice ad (strL s a n).length c) ∧ Below w.heap.size w w') := fun w1 h1 => (sstrs_any w1 b s L f a n ha hn (h.below h1) hf hm hkey hE).mono fun e w' ⟨v, he, ho, hb⟩ => by
      obtain ⟨ad, c, rfl⟩ := row_form ho
      exact ⟨ad, c, he, bl_then h1 hb⟩
  have HK : Hid (∀ w1, Below w.heap.size w w1 → Calls Tryz.prog 42 #[.agg #[.int .i64 a, .int .i64 n], .int .i64 g] w1 fun e w' => e = .returned (.string (keyL 23 [a, n, g])) ∧ Below w.heap.size w w') := fun w1 h1 => (setKey_any w1 a n g ha hn hg).mono fun e w' ⟨he, hb⟩ => ⟨he, bl_then h1 hb⟩
  have HP : Hid (∀ w1, Below w.heap.size w w1 → Calls Tryz.prog 53 #[.pointer (some ⟨b, 0, none⟩), .string (keyL 23 [a, n, g]), .int .i64 1] w1 fun e w' => e = .returned (.tuple #[]) ∧ RetSt w b L (.int .i64 0) (s.setInt (keyL 23 [a, n, g]) 1) (.returned (.int .i64 0)) w') := fun w1 h1 => (setIntG_any w1 b s L _ 1 (by decide) (h.below h1) hz).mono fun e w' hR => ⟨hR.1, (RetSt.of_below h1 hR).as _⟩
  have HE : Hid (∀ k w1, Below w.heap.size w w1 → RetSt w b L (.int .i64 k) s (.returned (.int .i64 k)) w1) := fun k w1 hb => ret_same h hb _
  have hb00 := Below.refl w.heap.size w
  unfold sInc
  generalize s.setInt (keyL 23 [a, n, g]) 1 = s2 at *
  generalize keyL 23 [a, n, g] = kk at *
  generalize (strL s a n).length = m at *
  generalize RetSt w b L = R at *
  generalize sThere s a n = x at *
  generalize sKnown s g = y at *
  generalize sHas s a n g = z at *
  clear h hf hz hm hkey hE
  cases x with
  | false =>
    rw [if_pos rfl]
    go_enter Tryz.func31, Tryz.ntmps31
    go_wp2_with (first
      | (go_at_call 10; refine Calls.mono (HT.out _ (by assumption)) ?_; rintro e w1 ⟨rfl, h1⟩)
      | (go_at_call 56; refine Calls.mono (HN.out _ (by assumption)) ?_; rintro e w2 ⟨rfl, h2⟩)
      | (go_at_call 12; refine Calls.mono (HH.out _ (by assumption)) ?_; rintro e w3 ⟨rfl, h3⟩)
      | (go_at_call 9; refine Calls.mono (HS.out _ (by assumption)) ?_; rintro e w4 ⟨ad, c, rfl, h4⟩)
      | (go_at_call 42; refine Calls.mono (HK.out _ (by assumption)) ?_; rintro e w5 ⟨rfl, h5⟩)
      | (go_at_call 53; refine Calls.mono (HP.out _ (by assumption)) ?_; rintro e w6 ⟨rfl, hR⟩))
    exact HE.out _ _ h1
  | true =>
  cases y with
  | false =>
    rw [if_neg (by decide), if_pos rfl]
    go_enter Tryz.func31, Tryz.ntmps31
    go_wp2_with (first
      | (go_at_call 10; refine Calls.mono (HT.out _ (by assumption)) ?_; rintro e w1 ⟨rfl, h1⟩)
      | (go_at_call 56; refine Calls.mono (HN.out _ (by assumption)) ?_; rintro e w2 ⟨rfl, h2⟩)
      | (go_at_call 12; refine Calls.mono (HH.out _ (by assumption)) ?_; rintro e w3 ⟨rfl, h3⟩)
      | (go_at_call 9; refine Calls.mono (HS.out _ (by assumption)) ?_; rintro e w4 ⟨ad, c, rfl, h4⟩)
      | (go_at_call 42; refine Calls.mono (HK.out _ (by assumption)) ?_; rintro e w5 ⟨rfl, h5⟩)
      | (go_at_call 53; refine Calls.mono (HP.out _ (by assumption)) ?_; rintro e w6 ⟨rfl, hR⟩))
    exact HE.out _ _ h2
  | true =>
  cases z with
  | true =>
    rw [if_neg (by decide), if_neg (by decide), if_pos rfl]
    go_enter Tryz.func31, Tryz.ntmps31
    go_wp2_with (first
      | (go_at_call 10; refine Calls.mono (HT.out _ (by assumption)) ?_; rintro e w1 ⟨rfl, h1⟩)
      | (go_at_call 56; refine Calls.mono (HN.out _ (by assumption)) ?_; rintro e w2 ⟨rfl, h2⟩)
      | (go_at_call 12; refine Calls.mono (HH.out _ (by assumption)) ?_; rintro e w3 ⟨rfl, h3⟩)
      | (go_at_call 9; refine Calls.mono (HS.out _ (by assumption)) ?_; rintro e w4 ⟨ad, c, rfl, h4⟩)
      | (go_at_call 42; refine Calls.mono (HK.out _ (by assumption)) ?_; rintro e w5 ⟨rfl, h5⟩)
      | (go_at_call 53; refine Calls.mono (HP.out _ (by assumption)) ?_; rintro e w6 ⟨rfl, hR⟩))
    exact HE.out _ _ h3
  | false =>
  rw [if_neg (by decide), if_neg (by decide), if_neg (by decide)]
  by_cases h8 : 8 ≤ m
  · rw [if_pos h8]
    have hd8 : decide ((8 : Int) ≤ (m : Int)) = true := decide_eq_true (by omega)
    go_enter Tryz.func31, Tryz.ntmps31
    go_wp2_with (first
      | (go_at_call 10; refine Calls.mono (HT.out _ (by assumption)) ?_; rintro e w1 ⟨rfl, h1⟩)
      | (go_at_call 56; refine Calls.mono (HN.out _ (by assumption)) ?_; rintro e w2 ⟨rfl, h2⟩)
      | (go_at_call 12; refine Calls.mono (HH.out _ (by assumption)) ?_; rintro e w3 ⟨rfl, h3⟩)
      | (go_at_call 9; refine Calls.mono (HS.out _ (by assumption)) ?_; rintro e w4 ⟨ad, c, rfl, h4⟩)
      | (go_at_call 42; refine Calls.mono (HK.out _ (by assumption)) ?_; rintro e w5 ⟨rfl, h5⟩)
      | (go_at_call 53; refine Calls.mono (HP.out _ (by assumption)) ?_; rintro e w6 ⟨rfl, hR⟩))
    exact HE.out _ _ h4
  · rw [if_neg h8]
    have hd8 : decide ((8 : Int) ≤ (m : Int)) = false := decide_eq_false (by omega)
    go_enter Tryz.func31, Tryz.ntmps31
    go_wp2_with (first
      | (go_at_call 10; refine Calls.mono (HT.out _ (by assumption)) ?_; rintro e w1 ⟨rfl, h1⟩)
      | (go_at_call 56; refine Calls.mono (HN.out _ (by assumption)) ?_; rintro e w2 ⟨rfl, h2⟩)
      | (go_at_call 12; refine Calls.mono (HH.out _ (by assumption)) ?_; rintro e w3 ⟨rfl, h3⟩)
      | (go_at_call 9; refine Calls.mono (HS.out _ (by assumption)) ?_; rintro e w4 ⟨ad, c, rfl, h4⟩)
      | (go_at_call 42; refine Calls.mono (HK.out _ (by assumption)) ?_; rintro e w5 ⟨rfl, h5⟩)
      | (go_at_call 53; refine Calls.mono (HP.out _ (by assumption)) ?_; rintro e w6 ⟨rfl, hR⟩))
    exact hR

set_option maxRecDepth 100000 in
set_option maxHeartbeats 4000000 in
theorem rsinc_any (w : World) (b : Nat) (s : St) (L : List Nat) (f : Nat) (a n g : Int) (ha : a < 9223372036854775808) (hn : n < 9223372036854775808) (hg : g < 9223372036854775808) (h : RRep w b s L) (hf : s.Fit f) (hm : f < 10000000000) (hkey : ∀ x ∈ s.ents, x.1.size < 1000000000000) (_ : NoE s) :
    Calls Tryz.prog 32 #[.pointer (some ⟨b, 0, none⟩), .int .i64 a, .int .i64 n, .int .i64 g] w (RetR w b L (.int .i64 (sInc s a n g).1) (sInc s a n g).2) := by
  have hz : s.size < 1000000000000 := Nat.lt_of_le_of_lt hf.size (by omega)
  have HT : Hid (∀ w1, Below w.heap.size w w1 → Calls Tryz.prog 15 #[.pointer (some ⟨b, 0, none⟩), .int .i64 a, .int .i64 n] w1 fun e w' => e = .returned (.bool (sThere s a n)) ∧ Below w.heap.size w w') := fun w1 h1 => (rsthere_any w1 b s L f a n ha (h.below h1) hf (by omega)).mono fun e w' ⟨he, hb⟩ => ⟨he, bl_then h1 hb⟩
  have HN : Hid (∀ w1, Below w.heap.size w w1 → Calls Tryz.prog 60 #[.pointer (some ⟨b, 0, none⟩), .int .i64 g] w1 fun e w' => e = .returned (.bool (sKnown s g)) ∧ Below w.heap.size w w') := fun w1 h1 => (rknown_all w1 b s L f g hg (h.below h1) hf (by omega)).mono fun e w' ⟨he, hb⟩ => ⟨he, bl_then h1 hb⟩
  have HH : Hid (∀ w1, Below w.heap.size w w1 → Calls Tryz.prog 16 #[.pointer (some ⟨b, 0, none⟩), .int .i64 a, .int .i64 n, .int .i64 g] w1 fun e w' => e = .returned (.bool (sHas s a n g)) ∧ Below w.heap.size w w') := fun w1 h1 => (rshas_any w1 b s L f a n g ha hn hg (h.below h1) hf (by omega)).mono fun e w' ⟨he, hb⟩ => ⟨he, bl_then h1 hb⟩
  have HS : Hid (∀ w1, Below w.heap.size w w1 → Calls Tryz.prog 20 #[.pointer (some ⟨b, 0, none⟩), .int .i64 a, .int .i64 n] w1 fun e w' => ∃ ad c, e = .returned (.slice ad (strL s a n).length c) ∧ Below w.heap.size w w') := fun w1 h1 => (rstrs_any w1 b s L f a n ha hn (h.below h1) hf hm hkey).mono fun e w' ⟨v, he, ho, hb⟩ => by
      obtain ⟨ad, c, rfl, _⟩ := ho.form
      exact ⟨ad, c, he, bl_then h1 hb⟩
  have HK : Hid (∀ w1, Below w.heap.size w w1 → Calls Tryz.prog 45 #[.int .i64 a, .int .i64 n, .int .i64 g] w1 fun e w' => e = .returned (.string (keyL 23 [a, n, g])) ∧ Below w.heap.size w w') := fun w1 h1 => (rsetKey_any w1 a n g ha hn hg).mono fun e w' ⟨he, hb⟩ => ⟨he, bl_then h1 hb⟩
  have HP : Hid (∀ w1, Below w.heap.size w w1 → Calls Tryz.prog 59 #[.pointer (some ⟨b, 0, none⟩), .string (keyL 23 [a, n, g]), .int .i64 1] w1 fun e w' => e = .returned (.tuple #[]) ∧ RetR w b L (.int .i64 0) (s.setInt (keyL 23 [a, n, g]) 1) (.returned (.int .i64 0)) w') := fun w1 h1 => (rsetInt_any w1 b s L _ 1 (by decide) (h.below h1) hz).mono fun e w' hR => ⟨hR.1, (RetR.of_below h1 hR).as _⟩
  have HE : Hid (∀ k w1, Below w.heap.size w w1 → RetR w b L (.int .i64 k) s (.returned (.int .i64 k)) w1) := fun k w1 hb => rret_same h hb _
  have hb00 := Below.refl w.heap.size w
  unfold sInc
  generalize s.setInt (keyL 23 [a, n, g]) 1 = s2 at *
  generalize keyL 23 [a, n, g] = kk at *
  generalize (strL s a n).length = m at *
  generalize RetR w b L = R at *
  generalize sThere s a n = x at *
  generalize sKnown s g = y at *
  generalize sHas s a n g = z at *
  clear h hf hz hm hkey
  cases x with
  | false =>
    rw [if_pos rfl]
    go_enter Tryz.func32, Tryz.ntmps32
    go_wp2_with (first
      | (go_at_call 15; refine Calls.mono (HT.out _ (by assumption)) ?_; rintro e w1 ⟨rfl, h1⟩)
      | (go_at_call 60; refine Calls.mono (HN.out _ (by assumption)) ?_; rintro e w2 ⟨rfl, h2⟩)
      | (go_at_call 16; refine Calls.mono (HH.out _ (by assumption)) ?_; rintro e w3 ⟨rfl, h3⟩)
      | (go_at_call 20; refine Calls.mono (HS.out _ (by assumption)) ?_; rintro e w4 ⟨ad, c, rfl, h4⟩)
      | (go_at_call 45; refine Calls.mono (HK.out _ (by assumption)) ?_; rintro e w5 ⟨rfl, h5⟩)
      | (go_at_call 59; refine Calls.mono (HP.out _ (by assumption)) ?_; rintro e w6 ⟨rfl, hR⟩))
    exact HE.out _ _ h1
  | true =>
  cases y with
  | false =>
    rw [if_neg (by decide), if_pos rfl]
    go_enter Tryz.func32, Tryz.ntmps32
    go_wp2_with (first
      | (go_at_call 15; refine Calls.mono (HT.out _ (by assumption)) ?_; rintro e w1 ⟨rfl, h1⟩)
      | (go_at_call 60; refine Calls.mono (HN.out _ (by assumption)) ?_; rintro e w2 ⟨rfl, h2⟩)
      | (go_at_call 16; refine Calls.mono (HH.out _ (by assumption)) ?_; rintro e w3 ⟨rfl, h3⟩)
      | (go_at_call 20; refine Calls.mono (HS.out _ (by assumption)) ?_; rintro e w4 ⟨ad, c, rfl, h4⟩)
      | (go_at_call 45; refine Calls.mono (HK.out _ (by assumption)) ?_; rintro e w5 ⟨rfl, h5⟩)
      | (go_at_call 59; refine Calls.mono (HP.out _ (by assumption)) ?_; rintro e w6 ⟨rfl, hR⟩))
    exact HE.out _ _ h2
  | true =>
  cases z with
  | true =>
    rw [if_neg (by decide), if_neg (by decide), if_pos rfl]
    go_enter Tryz.func32, Tryz.ntmps32
    go_wp2_with (first
      | (go_at_call 15; refine Calls.mono (HT.out _ (by assumption)) ?_; rintro e w1 ⟨rfl, h1⟩)
      | (go_at_call 60; refine Calls.mono (HN.out _ (by assumption)) ?_; rintro e w2 ⟨rfl, h2⟩)
      | (go_at_call 16; refine Calls.mono (HH.out _ (by assumption)) ?_; rintro e w3 ⟨rfl, h3⟩)
      | (go_at_call 20; refine Calls.mono (HS.out _ (by assumption)) ?_; rintro e w4 ⟨ad, c, rfl, h4⟩)
      | (go_at_call 45; refine Calls.mono (HK.out _ (by assumption)) ?_; rintro e w5 ⟨rfl, h5⟩)
      | (go_at_call 59; refine Calls.mono (HP.out _ (by assumption)) ?_; rintro e w6 ⟨rfl, hR⟩))
    exact HE.out _ _ h3
  | false =>
  rw [if_neg (by decide), if_neg (by decide), if_neg (by decide)]
  by_cases h8 : 8 ≤ m
  · rw [if_pos h8]
    have hd8 : decide ((8 : Int) ≤ (m : Int)) = true := decide_eq_true (by omega)
    go_enter Tryz.func32, Tryz.ntmps32
    go_wp2_with (first
      | (go_at_call 15; refine Calls.mono (HT.out _ (by assumption)) ?_; rintro e w1 ⟨rfl, h1⟩)
      | (go_at_call 60; refine Calls.mono (HN.out _ (by assumption)) ?_; rintro e w2 ⟨rfl, h2⟩)
      | (go_at_call 16; refine Calls.mono (HH.out _ (by assumption)) ?_; rintro e w3 ⟨rfl, h3⟩)
      | (go_at_call 20; refine Calls.mono (HS.out _ (by assumption)) ?_; rintro e w4 ⟨ad, c, rfl, h4⟩)
      | (go_at_call 45; refine Calls.mono (HK.out _ (by assumption)) ?_; rintro e w5 ⟨rfl, h5⟩)
      | (go_at_call 59; refine Calls.mono (HP.out _ (by assumption)) ?_; rintro e w6 ⟨rfl, hR⟩))
    exact HE.out _ _ h4
  · rw [if_neg h8]
    have hd8 : decide ((8 : Int) ≤ (m : Int)) = false := decide_eq_false (by omega)
    go_enter Tryz.func32, Tryz.ntmps32
    go_wp2_with (first
      | (go_at_call 15; refine Calls.mono (HT.out _ (by assumption)) ?_; rintro e w1 ⟨rfl, h1⟩)
      | (go_at_call 60; refine Calls.mono (HN.out _ (by assumption)) ?_; rintro e w2 ⟨rfl, h2⟩)
      | (go_at_call 16; refine Calls.mono (HH.out _ (by assumption)) ?_; rintro e w3 ⟨rfl, h3⟩)
      | (go_at_call 20; refine Calls.mono (HS.out _ (by assumption)) ?_; rintro e w4 ⟨ad, c, rfl, h4⟩)
      | (go_at_call 45; refine Calls.mono (HK.out _ (by assumption)) ?_; rintro e w5 ⟨rfl, h5⟩)
      | (go_at_call 59; refine Calls.mono (HP.out _ (by assumption)) ?_; rintro e w6 ⟨rfl, hR⟩))
    exact hR
end Go.Proofs.YtnblhjndngpbnaaGreat
