/- What is proved here: service.New of any list, whatever it answers, and the reference's New. Their conditions: numbers below 2^63, sizes; the list lies in no block of the store. -/
import Derived.Test.YtnblhjndngpbnaaGreatServN
namespace Go.Proofs.YtnblhjndngpbnaaGreat
open Go.RowKit

set_option maxRecDepth 100000 in
set_option maxHeartbeats 8000000 in
theorem snewL_any (w : World) (b : Nat) (s : St) (L : List Nat) (f : Nat) (a : Int) (v : Value) (l : List Int) (ha : a < 9223372036854775808) (h : SRep w b s L) (hf : s.Fit f) (hm : f < 1000000000)
    (hv : ∀ w', Fr (fun k => k ∈ L) w w' → IntsAt w' v l) (hl : l.length < 100000000) (hr : ∀ n ∈ l, n < 9223372036854775808) :
    Calls Tryz.prog 27 #[.pointer (some ⟨b, 0, none⟩), .int .i64 a, v] w (RetSt w b L (.tuple #[.int .i64 (sNewL s a l).1.1, .int .i64 (sNewL s a l).1.2]) (sNewL s a l).2) := by
  have hS := fun h1 h2 h3 h4 => snewS_any w b s L f a v l ha h hf hm hv hl hr h1 h2 h3 h4
  have hv0 := hv w (Fr.refl _ w)
  obtain ⟨ad, c, rfl, hrd⟩ := ints_reads hv0
  have hb0 : Below w.heap.size w (w.alloc (.cells #[.pointer (some ⟨b, 0, none⟩)] 25)) := (Below.refl _ w).alloc (Nat.le_refl _) _
  have hp0 : (w.alloc (.cells #[.pointer (some ⟨b, 0, none⟩)] 25)).cell? ⟨w.heap.size, 0, none⟩ = some (.pointer (some ⟨b, 0, none⟩)) := by rw [cell_of_row _ _ _ _ _ _ (heap_alloc_new w _)]; rfl
  have HM := Lib.hid (made_at (w.alloc (.cells #[.pointer (some ⟨b, 0, none⟩)] 25)) b true (h.below hb0).cell0)
  have HC : Hid (Calls Tryz.prog 13 #[.pointer (some ⟨b, 0, none⟩), .int .i64 a] (w.alloc (.cells #[.pointer (some ⟨b, 0, none⟩)] 25)) fun e w1 => e = .returned (.bool (sIs s a)) ∧ Below w.heap.size w w1 ∧
      Calls Tryz.prog 21 #[.slice ad l.length c] w1 fun e w2 => e = .returned (.bool (riseL l)) ∧ Below w.heap.size w w2 ∧
      Calls Tryz.prog 54 #[.slice ad l.length c, .func (.func 55) #[] #[.pointer (some ⟨w.heap.size, 0, none⟩)]] w2 fun e w3 => e = .returned (.bool (unkL s l)) ∧ w3.cell? ⟨w.heap.size, 0, none⟩ = some (.pointer (some ⟨b, 0, none⟩)) ∧ Below w.heap.size w w3 ∧
      Calls Tryz.prog 17 #[.pointer (some ⟨b, 0, none⟩), .int .i64 a] w3 fun e w4 => e = .returned (.int .i64 (sSets s a)) ∧ Below w.heap.size w w4) := by
    refine (sis_any (w.alloc (.cells #[.pointer (some ⟨b, 0, none⟩)] 25)) b s L f a ha (h.below hb0) hf (by omega)).mono fun e w1 ⟨he, b1⟩ => ⟨he, bl_then hb0 b1, ?_⟩
    have b01 := bl_then hb0 b1
    refine (rise_any w1 _ l (hv0.below b01) (by omega)).mono fun e w2 ⟨he, b2⟩ => ⟨he, bl_then b01 b2, ?_⟩
    have b02 := bl_then b01 b2
    refine (containsF_all w2 b s L f _ l w.heap.size (hv0.below b02) (by omega) hr (h.below b02) hf (bl_cell b2 (bl_cell b1 hp0))).mono fun e w3 ⟨he, b3⟩ => ⟨he, bl_cell b3 (bl_cell b2 (bl_cell b1 hp0)), bl_then b02 b3, ?_⟩
    have b03 := bl_then b02 b3
    exact (ssets_any w3 b s L f a ha (h.below b03) hf (by omega)).mono fun e w4 ⟨he, b4⟩ => ⟨he, bl_then b03 b4⟩
  have HR := Lib.hid (fun w' (hb : Below w.heap.size w w') v => ret_same h hb v)
  unfold sNewL
  rw [show (l.any fun g => !sKnown s g) = unkL s l from rfl]
  cases hx : sIs s a with
  | false =>
    rw [if_pos rfl]
    rw [hx] at HC
    clear hS h hf hv hv0 hrd hr hp0 hb0
    generalize RetSt w b L = R at *
    generalize unkL s l = u at *
    generalize riseL l = y at *
    generalize sSets s a = n at *
    go_enter Tryz.func27, Tryz.ntmps27
    go_wp2_with fail
    refine HM.out.mono ?_
    rintro e w' ⟨rfl, rfl⟩
    go_wp2_with fail
    refine Calls.mono HC.out ?_
    rintro e w1 ⟨rfl, hb1, hC⟩
    clear hC HC
    go_wp2_with fail
    exact HR.out _ hb1 _
  | true =>
  cases hy : riseL l with
  | false =>
    rw [if_neg (by decide), if_pos rfl]
    rw [hx, hy] at HC
    clear hS h hf hv hv0 hrd hr hp0 hb0
    generalize RetSt w b L = R at *
    generalize unkL s l = u at *
    generalize sSets s a = n at *
    go_enter Tryz.func27, Tryz.ntmps27
    go_wp2_with fail
    refine HM.out.mono ?_
    rintro e w' ⟨rfl, rfl⟩
    go_wp2_with fail
    refine Calls.mono HC.out ?_
    rintro e w1 ⟨rfl, hb1, hC⟩
    have HC1 := Lib.hid hC
    clear hC HC
    go_wp2_with fail
    refine Calls.mono HC1.out ?_
    rintro e w2 ⟨rfl, hb2, hC⟩
    clear hC HC1
    go_wp2_with fail
    exact HR.out _ hb2 _
  | true =>
  cases hu : unkL s l with
  | true =>
    rw [if_neg (by decide), if_neg (by decide), if_pos rfl]
    rw [hx, hy, hu] at HC
    clear hS h hf hv hv0 hrd hr hp0 hb0
    generalize RetSt w b L = R at *
    generalize sSets s a = n at *
    go_enter Tryz.func27, Tryz.ntmps27
    go_wp2_with fail
    refine HM.out.mono ?_
    rintro e w' ⟨rfl, rfl⟩
    go_wp2_with fail
    refine Calls.mono HC.out ?_
    rintro e w1 ⟨rfl, hb1, hC⟩
    have HC1 := Lib.hid hC
    clear hC HC
    go_wp2_with fail
    refine Calls.mono HC1.out ?_
    rintro e w2 ⟨rfl, hb2, hC⟩
    have HC2 := Lib.hid hC
    clear hC HC1
    go_wp2_with fail
    refine Calls.mono HC2.out ?_
    rintro e w3 ⟨rfl, p3, hb3, hC⟩
    clear hC HC2
    go_wp2_with fail
    exact HR.out _ hb3 _
  | false =>
  by_cases h16 : 16 ≤ sSets s a
  · rw [if_neg (by decide), if_neg (by decide), if_neg (by decide), if_pos h16]
    rw [hx, hy, hu] at HC
    have hd16 : decide ((16 : Int) ≤ (sSets s a : Int)) = true := decide_eq_true (by omega)
    clear hS h hf hv hv0 hrd hr hp0 hb0
    generalize RetSt w b L = R at *
    generalize sSets s a = n at *
    go_enter Tryz.func27, Tryz.ntmps27
    go_wp2_with fail
    refine HM.out.mono ?_
    rintro e w' ⟨rfl, rfl⟩
    go_wp2_with fail
    refine Calls.mono HC.out ?_
    rintro e w1 ⟨rfl, hb1, hC⟩
    have HC1 := Lib.hid hC
    clear hC HC
    go_wp2_with fail
    refine Calls.mono HC1.out ?_
    rintro e w2 ⟨rfl, hb2, hC⟩
    have HC2 := Lib.hid hC
    clear hC HC1
    go_wp2_with fail
    refine Calls.mono HC2.out ?_
    rintro e w3 ⟨rfl, p3, hb3, hC⟩
    have HC3 := Lib.hid hC
    clear hC HC2
    go_wp2_with fail
    refine Calls.mono HC3.out ?_
    rintro e w4 ⟨rfl, hb4⟩
    go_wp2_with fail
    exact HR.out _ hb4 _
  · rw [if_neg (by decide), if_neg (by decide), if_neg (by decide), if_neg h16]
    exact hS hx hy hu (by omega)
end Go.Proofs.YtnblhjndngpbnaaGreat
