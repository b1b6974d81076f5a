/- What is proved here: alloc.Pending, over any store that is read. Its condition: ints below 2^63. -/
import Derived.Test.YtngaogfhijaaaaaGreatAllocR
namespace Go.Proofs.YtngaogfhijaaaaaGreat
open Go.RowKit

/-- What Pending's last region keeps. -/
def PSt (w : World) (x : I4) (g : Nat) (a b : Nat) (W : World) : Prop := Below w.heap.size w W ∧ (W.cell? ⟨g, 0, none⟩ = some (.int .i64 a) ∧ W.cell? ⟨g, 1, none⟩ = some (.int .i64 b)) ∧ IdC w.heap.size x W ∧ W.heap[w.heap.size + 1]? = some (.cells (uL (0, 0, 0, 0)) 65 (0, 0))
theorem PSt.below {w : World} {x : I4} {g a b : Nat} {W W' : World} (h : PSt w x g a b W) (hb : Below W.heap.size W W') : PSt w x g a b W' :=
  ⟨bl_then h.1 hb, ⟨bl_cell hb h.2.1.1, bl_cell hb h.2.1.2⟩, idc_below h.2.2.1 hb, (hb.block _ (Array.getElem?_eq_some_iff.1 h.2.2.2).1).trans h.2.2.2⟩
theorem PSt.out {w : World} {x : I4} {g a b : Nat} {W : World} (h : PSt w x g a b W) : (W.cell? ⟨g, 0, none⟩ = some (.int .i64 a) ∧ W.cell? ⟨g, 1, none⟩ = some (.int .i64 b)) ∧ IdC w.heap.size x W ∧ W.frozen? ⟨w.heap.size + 1, 0, none⟩ = false ∧ W.frozen? ⟨w.heap.size + 1, 1, none⟩ = false ∧ W.frozen? ⟨w.heap.size + 1, 2, none⟩ = false ∧ W.frozen? ⟨w.heap.size + 1, 3, none⟩ = false := by
  obtain ⟨_, _, _, _, f0, f1, f2, f3⟩ := row4 h.2.2.2
  exact ⟨h.2.1, h.2.2.1, f0, f1, f2, f3⟩

set_option maxRecDepth 100000 in
set_option maxHeartbeats 8000000 in
theorem pending_any (w : World) (q : Option Addr) (s : St) (x : I4) (hx : x.Ok) (h : ReadAt w.heap.size w q s) : Calls Tryz.prog 24 #[.pointer q, idV x] w fun e w' => e = .returned (.tuple #[.int .i64 (pend s x).1, uV (pend s x).2.1, .int .i64 (pend s x).2.2]) ∧ Below w.heap.size w w' := by
  have hrow : ((w.alloc (.cells (idL x) 62)).alloc (.cells (uL (0, 0, 0, 0)) 65)).heap[w.heap.size]? = some (.cells (idL x) 62 (0, 0)) := by
    rw [heap_alloc_old _ _ (by simp)]; exact heap_alloc_new w (.cells (idL x) 62)
  have hc : IdC w.heap.size x ((w.alloc (.cells (idL x) 62)).alloc (.cells #[.int .u64 0, .int .u64 0, .int .u64 0, .int .u64 0] 65)) := idc_row hrow
  obtain ⟨q0, q1, q2, q3⟩ := hc
  have HC : Hid (Calls Tryz.prog 66 #[idV x, .int .i64 30] ((w.alloc (.cells (idL x) 62)).alloc (.cells (uL (0, 0, 0, 0)) 65)) fun e w1 => e = .returned (.string (aKey 30 x)) ∧
    Calls Tryz.prog 65 #[.pointer q, .string (aKey 30 x)] w1 fun e w2 => ∃ v, e = .returned v ∧ Own w2 3 1 v (rowOf (s.val (aKey 30 x))).length (intsV (rowOf (s.val (aKey 30 x)))) ∧ (∀ g, v.ownBlock = some g → w.heap.size + 1 < g) ∧ Below w.heap.size w w2 ∧ IdC w.heap.size x w2 ∧ w2.heap[w.heap.size + 1]? = some (.cells (uL (0, 0, 0, 0)) 65 (0, 0))) := by
    refine (akey_any 30 (by decide) (by decide) x hx _).mono fun e w1 ⟨he, hb⟩ => ⟨he, ?_⟩
    have hi1 : IdC w.heap.size x w1 := idc_below (idc_row hrow) hb
    have hsz := hb.size
    simp only [World.size_alloc] at hsz
    obtain ⟨hb1, hr1⟩ := newRow2 _ _ hb
    refine ((h.below hb1).row (aKey 30 x)).mono fun e w2 ⟨v, he, ho, hg, hb2⟩ => ⟨v, he, ho, fun g hgg => (by have := hg g hgg; omega), bl_then hb1 hb2, idc_below hi1 hb2, (hb2.block _ (Array.getElem?_eq_some_iff.1 hr1).1).trans hr1⟩
  have HA : Hid (∀ W, Below w.heap.size w W → Calls Tryz.prog 67 #[.pointer q, .string (aKey 31 x)] W fun e w2 => e = .returned (uV (toAmt (s.val (aKey 31 x)))) ∧ Below W.heap.size W w2) := fun W hb => ((h.below hb).up hb.size).amount _
  have HP : Hid (pend s x = pendOf (rowOf (s.val (aKey 30 x))) (toAmt (s.val (aKey 31 x)))) := rfl
  have HK : Hid (∀ W, Calls Tryz.prog 66 #[idV x, .int .i64 31] W fun e w' => e = .returned (.string (aKey 31 x)) ∧ Below W.heap.size W w') := fun W => akey_any 31 (by decide) (by decide) x hx W
  clear hrow h
  generalize toAmt (s.val (aKey 31 x)) = y at *
  generalize rowOf (s.val (aKey 30 x)) = l at *
  generalize aKey 30 x = k at *
  generalize aKey 31 x = k2 at *
  generalize pend s x = p at *
  by_cases h2 : l.length = 2
  · obtain ⟨a, b, rfl⟩ : ∃ a b, l = [a, b] := by
      match l, h2 with
      | [a, b], _ => exact ⟨a, b, rfl⟩
    have hp : p = (a, y, b) := HP.out
    subst hp
    clear h2 HP
    go_enter Tryz.func24, Tryz.ntmps24
    go_wp2_with fail
    refine Calls.mono HC.out ?_
    rintro e w1 ⟨rfl, hD⟩
    have HD := Lib.hid hD
    clear hD HC
    go_wp2_with fail
    refine Calls.mono HD.out ?_
    rintro e w2 ⟨v, rfl, ho, hgn, hb2, hI2, hr2⟩
    obtain ⟨g, c, rfl, c0, c1⟩ := own_two ho
    have hg1 : w.heap.size + 1 < g := hgn g rfl
    have hP : PSt w x g a b w2 := ⟨hb2, ⟨c0, c1⟩, hI2, hr2⟩
    have hPd : PSt w x g a b w2.drew := ⟨bl_drew hb2, ⟨c0, c1⟩, hI2, hr2⟩
    have HP := Lib.hid hPd
    obtain ⟨_, ⟨i0, i1, i2, i3⟩, f0, f1, f2, f3⟩ := hP.out
    have n1 : g ≠ w.heap.size + 1 := by omega
    have n2 := Ne.symm n1
    clear HD ho hgn hb2 hI2 hr2 hP hPd
    go_wp2_with fail
    go_region_held3 (fun w' => w'.cell? ⟨g, 0, none⟩ = some (.int .i64 a) ∧ w'.cell? ⟨g, 1, none⟩ = some (.int .i64 b) ∧ w'.cell? ⟨w.heap.size, 0, none⟩ = some (.int .i64 x.1) ∧ w'.cell? ⟨w.heap.size, 1, none⟩ = some (.int .i64 x.2.1) ∧ w'.cell? ⟨w.heap.size, 2, none⟩ = some (.int .i64 x.2.2.1) ∧ w'.cell? ⟨w.heap.size, 3, none⟩ = some (.int .i64 x.2.2.2) ∧ w'.frozen? ⟨w.heap.size + 1, 0, none⟩ = false ∧ w'.frozen? ⟨w.heap.size + 1, 1, none⟩ = false ∧ w'.frozen? ⟨w.heap.size + 1, 2, none⟩ = false ∧ w'.frozen? ⟨w.heap.size + 1, 3, none⟩ = false) (first | assumption | go_keep)
      (first
        | (go_at_call 66; refine Calls.mono (HK.out _) ?_; rintro e w3 ⟨rfl, hb3⟩; have HP3 := Lib.hid (HP.out.below hb3); obtain ⟨⟨d0, d1⟩, ⟨j0, j1, j2, j3⟩, e0, e1, e2, e3⟩ := HP3.out.out)
        | (go_at_call 67; refine Calls.mono (HA.out _ HP3.out.1) ?_; rintro e w4 ⟨rfl, hb4⟩; have HP4 := Lib.hid (HP3.out.below hb4); obtain ⟨⟨m0, m1⟩, ⟨l0, l1, l2, l3⟩, _⟩ := HP4.out.out; obtain ⟨t0, t1, t2, t3, k0, k1, k2, k3⟩ := row4 HP4.out.2.2.2))
    all_goals
      go_wp2_with fail
      refine bodyPost_ret (results_tmp_row_tmp rfl _ _ (w.heap.size + 1) 65 (uL y) (0, 0) _ rfl (put4 HP4.out.2.2.2 y) Tryz.underlying65 rfl (by kernel_rfl)) rfl ?_
      exact ⟨rfl, put4_below HP4.out.1 (by omega) _ _ _ _⟩
  · have hp : p = (0, (0, 0, 0, 0), 0) := by
      rw [HP.out]; unfold pendOf
      match l, h2 with
      | [], _ => rfl
      | [_], _ => rfl
      | _ :: _ :: _ :: _, _ => rfl
    subst hp
    have HC1 : Hid (Calls Tryz.prog 66 #[idV x, .int .i64 30] ((w.alloc (.cells (idL x) 62)).alloc (.cells (uL (0, 0, 0, 0)) 65)) fun e w1 => e = .returned (.string k) ∧
      Calls Tryz.prog 65 #[.pointer q, .string k] w1 fun e w2 => ∃ ad c, e = .returned (.slice ad l.length c) ∧ Below w.heap.size w w2 ∧ w2.heap[w.heap.size + 1]? = some (.cells (uL (0, 0, 0, 0)) 65 (0, 0))) := by
      refine HC.out.mono fun e w1 ⟨he, h1⟩ => ⟨he, h1.mono fun e w2 ⟨v, he, hO, _, hb, _, hr⟩ => ?_⟩
      obtain ⟨ad, c, hu, _⟩ := hO.form
      subst hu
      exact ⟨ad, c, he, hb, hr⟩
    have hne : ((l.length : Int) == 2) = false := beq_eq_false_iff_ne.2 (by omega)
    clear HC HP h2
    generalize l.length = ln at *
    go_enter Tryz.func24, Tryz.ntmps24
    go_wp2_with fail
    refine Calls.mono HC1.out ?_
    rintro e w1 ⟨rfl, hD⟩
    have HD := Lib.hid hD
    clear hD HC1
    go_wp2_with fail
    refine Calls.mono HD.out ?_
    rintro e w2 ⟨ad, c, rfl, hb2, hrow⟩
    have HR := Lib.hid hrow
    obtain ⟨_, _, _, _, r0, r1, r2, r3⟩ := row4 hrow
    clear hrow HD
    go_wp2_with fail
    refine bodyPost_ret (results_tmp_row_tmp rfl _ _ (w.heap.size + 1) 65 (uL (0, 0, 0, 0)) (0, 0) _ rfl (put4 HR.out (0, 0, 0, 0)) Tryz.underlying65 rfl (by kernel_rfl)) rfl ?_
    exact ⟨rfl, put4_below hb2 (by omega) _ _ _ _⟩
end Go.Proofs.YtngaogfhijaaaaaGreat
