/- What is proved here: a store's All; the reference's Same: are two slices of pairs alike? -/
import Derived.Test.YtgnnnjabgoadaaaUnder
import Derived.Laws.StructEq
namespace Go.Proofs.Ytgnnnjabgoadaaa
open Go.RowKit

set_option maxHeartbeats 1000000 in
theorem all_any (w : World) (b : Nat) (s : St) (L : List Nat) (h : SRep w b s L) (hb : s.size < 1000000000000) :
    Calls Try.prog 19 #[.pointer (some ⟨b, 0, none⟩)] w (RetPairs w s.ents) := by
  have HU := Lib.hid (under_any w b s L ⟨#[]⟩ h hb)
  rw [underE_all] at HU
  have HQ : Hid (∀ e w', RetPairs w s.ents e w' → ∃ a n c, e = .returned (.slice a n c) ∧ RetPairs w s.ents (.returned (.slice a n c)) w') := fun e w' h => by
    obtain ⟨v, rfl, hO⟩ := h
    obtain ⟨_, a, c, rfl, _⟩ := hO.1.src
    exact ⟨a, _, c, rfl, _, rfl, hO⟩
  generalize RetPairs w s.ents = R at *
  clear h hb
  go_enter Try.func19, Try.ntmps19
  go_wp2_with (go_at_call 47; refine HU.out.mono ?_; intro e w' hR; obtain ⟨a, n, c, rfl, hR2⟩ := HQ.out _ _ hR)
  exact hR2

/-- Pairs as the walk reads them. -/
structure PairsAt (w : World) (a : Option Addr) (l : List Ent) : Prop where
  at0 : ∀ k x, l[k]? = some x → ∃ g, a = some ⟨g, 0, none⟩ ∧ w.cell? ⟨g, k * 2, none⟩ = some (.string x.1) ∧ w.cell? ⟨g, k * 2 + 1, none⟩ = some (.string x.2)

theorem Own.pairs {w : World} {v : Value} {l : List Ent} {n : Nat} (h : Own w 39 2 v n (pairV l)) : ∃ a c, v = .slice a n c ∧ PairsAt w a l := by
  obtain ⟨a, c, rfl, hc⟩ := h.form
  refine ⟨a, c, rfl, ⟨fun k x hk => ?_⟩⟩
  obtain ⟨h1, h2⟩ := pairV_get _ k x hk
  obtain ⟨g, rfl, e1⟩ := hc _ _ h1
  obtain ⟨g', e, e2⟩ := hc _ _ h2
  cases e
  exact ⟨g, rfl, e1, e2⟩

theorem PairsAt.to {w w' : World} {a : Option Addr} {l : List Ent} (h : PairsAt w a l) (hh : w'.heap = w.heap) : PairsAt w' a l :=
  ⟨fun k x hk => by
    obtain ⟨g, h1, h2, h3⟩ := h.at0 k x hk
    exact ⟨g, h1, by rw [World.cell?_of_block (w := w) (by rw [hh])]; exact h2, by rw [World.cell?_of_block (w := w) (by rw [hh])]; exact h3⟩⟩

set_option maxRecDepth 100000 in
set_option maxHeartbeats 2000000 in
theorem same_any (w : World) (a1 a2 : Option Addr) (c1 c2 : Nat) (l1 l2 : List Ent) (h1 : PairsAt w a1 l1) (h2 : PairsAt w a2 l2) (hl : l1.length < 1000000000000) :
    Calls Try.prog 18 #[.slice a1 l1.length c1, .slice a2 l2.length c2] w fun e w' => e = .returned (.bool (decide (l1 = l2))) ∧ ∃ n, w.drewN n = w' := by
  by_cases hn : l1.length = l2.length
  · have hne : (((l1.length : Int)) != (l2.length : Int)) = false := by rw [bne_eq_false_iff_eq]; omega
    have H1 := Lib.hid (fun (w' : World) (hh : w'.heap = w.heap) => (h1.to hh).at0)
    have H2 := Lib.hid (fun (w' : World) (hh : w'.heap = w.heap) => (h2.to hh).at0)
    have HN := Lib.hid hn
    rw [← hn] at hne ⊢
    have hne : (((l1.length : Int)) != (l1.length : Int)) = false := by simp
    clear h1 h2 hn
    have hget1 : ∀ k, k < l1.length → ∃ x, l1[k]? = some x := fun k hk => ⟨_, List.getElem?_eq_getElem hk⟩
    have hget2 : ∀ k, k < l1.length → ∃ x, l2[k]? = some x := fun k hk => ⟨l2[k]'(by rw [← HN.out]; exact hk), List.getElem?_eq_getElem _⟩
    have HG1 := Lib.hid hget1
    have HG2 := Lib.hid hget2
    clear hget1 hget2
    generalize hm : l1.length = n at *
    have HM := Lib.hid hm
    clear hm
    go_enter Try.func18, Try.ntmps18
    go_wp2_with fail
    go_loopw [13] (fun i wr => ∃ k q : Nat, i = .int .i64 k ∧ k ≤ n ∧ l1.take k = l2.take k ∧ w.drewN q = wr) (fun i _ => n - (intOf i).toNat)
    case atStart => exact ⟨0, 0, rfl, by omega, rfl, rfl⟩
    case round =>
      obtain ⟨k, q, rfl, hk, htk, hw⟩ := hrel
      have HT := Lib.hid htk
      have HW : Hid (wr.heap = w.heap) := by subst hw; exact (rfl : (w.drewN q).heap = w.heap)
      have HWE := Lib.hid hw
      clear htk hw
      by_cases hlt : k < n
      · obtain ⟨x, hx⟩ := HG1.out k hlt
        obtain ⟨y, hy⟩ := HG2.out k hlt
        obtain ⟨g1, rfl, e1, e2⟩ := H1.out wr HW.out k x hx
        obtain ⟨g2, rfl, e3, e4⟩ := H2.out wr HW.out k y hy
        have HX := Lib.hid hx
        have HY := Lib.hid hy
        have hk0 : (0 : Int) ≤ (k : Int) := Int.natCast_nonneg _
        have hk1 : (k : Int) < (n : Int) := by omega
        clear hx hy
        by_cases hxy : x = y
        · subst hxy
          have b1 : (x.1.toList == x.1.toList) = true := by simp
          have b2 : (x.2.toList == x.2.toList) = true := by simp
          have HT2 : Hid (l1.take (k + 1) = l2.take (k + 1)) := by
            show _ = _
            rw [List.take_add_one, List.take_add_one, HT.out, HX.out, HY.out]
          generalize x.1 = s1 at *
          generalize x.2 = s2 at *
          go_wp2_with fail
          go_quiet (fail)
          go_wp2
          go_roundw
          case rel => exact ⟨k + 1, q + _, by go_num, by omega, HT2.out, by rw [← HWE.out, World.drewN_drewN]⟩
          case measure => simp [intOf]; omega
        · have hne2 : l1 ≠ l2 := fun e => by
            have h1 := HX.out
            rw [e, HY.out] at h1
            exact hxy (Option.some.inj h1).symm
          have HF : Hid (decide (l1 = l2) = false) := by show _ = _; simpa using hne2
          by_cases h1 : x.1 = y.1
          · have b1 : (x.1.toList == y.1.toList) = true := by rw [toList_beq]; simpa using h1
            have b2 : (x.2.toList == y.2.toList) = false := by
              rw [toList_beq, decide_eq_false_iff_not]
              intro e
              exact hxy (Prod.ext h1 e)
            clear h1 hxy hne2
            generalize x.1 = s1 at *
            generalize x.2 = s2 at *
            generalize y.1 = s3 at *
            generalize y.2 = s4 at *
            go_wp2_with fail
            go_quiet (fail)
            go_wp2
            go_ret
            exact ⟨ret_bool HF.out.symm, q + _, by rw [← HWE.out, World.drewN_drewN]⟩
          · have b1 : (x.1.toList == y.1.toList) = false := by rw [toList_beq]; simpa using h1
            clear h1 hxy hne2
            generalize x.1 = s1 at *
            generalize x.2 = s2 at *
            generalize y.1 = s3 at *
            generalize y.2 = s4 at *
            go_wp2_with fail
            go_quiet (fail)
            go_wp2
            go_ret
            exact ⟨ret_bool HF.out.symm, q + _, by rw [← HWE.out, World.drewN_drewN]⟩
      · obtain rfl : k = n := by omega
        have HTT : Hid (decide (l1 = l2) = true) := by
          show _ = _
          have h1 := HT.out
          rw [List.take_of_length_le (by rw [HM.out]; exact Nat.le_refl _), List.take_of_length_le (by rw [← HN.out]; exact Nat.le_refl _)] at h1
          simpa using h1
        go_wp2
        go_ret
        exact ⟨ret_bool HTT.out.symm, q, HWE.out⟩
  · have hne : (((l1.length : Int)) != (l2.length : Int)) = true := by rw [bne_iff_ne]; omega
    have HF : Hid (decide (l1 = l2) = false) := by
      show _ = _
      rw [decide_eq_false_iff_not]
      intro e
      exact hn (by rw [e])
    generalize decide (l1 = l2) = r at *
    clear h1 h2 hn
    generalize l1.length = n1 at *
    generalize l2.length = n2 at *
    go_enter Try.func18, Try.ntmps18
    go_wp2
    go_ret
    exact ⟨ret_bool HF.out.symm, 0, rfl⟩
end Go.Proofs.Ytgnnnjabgoadaaa
