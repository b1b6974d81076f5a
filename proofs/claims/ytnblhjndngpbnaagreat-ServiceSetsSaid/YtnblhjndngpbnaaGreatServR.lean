/- What is proved here: the reference's New of any list. Its conditions: numbers below 2^63, sizes; the list lies in no block of the store. -/
import Derived.Test.YtnblhjndngpbnaaGreatServM
namespace Go.Proofs.YtnblhjndngpbnaaGreat
open Go.RowKit

/-- Behind k rounds of New's loop. -/
def RNewTo (w : World) (b : Nat) (s1 : St) (L : List Nat) (a n : Int) (l : List Int) (k : Nat) (wr : World) : Prop :=
  ∃ L', RRep wr b (putL s1 a n (l.take k)) L' ∧ Step w L wr L'

set_option maxRecDepth 100000 in
set_option maxHeartbeats 8000000 in
theorem rsnewL_any (w : World) (b : Nat) (s : St) (L : List Nat) (f : Nat) (a : Int) (v : Value) (l : List Int) (ha : a < 9223372036854775808) (h : RRep w b s L) (hf : s.Fit f) (hm : f < 1000000000)
    (hv : ∀ w', Fr (fun k => k ∈ L) w w' → IntsAt w' v l) (hl : l.length < 100000000) (hr : ∀ n ∈ l, n < 9223372036854775808) :
    Calls Tryz.prog 30 #[.pointer (some ⟨b, 0, none⟩), .int .i64 a, v] w (RetR w b L (.tuple #[.int .i64 (sNewL s a l).1.1, .int .i64 (sNewL s a l).1.2]) (sNewL s a l).2) := by
  have hz : s.size < 1000000000000 := Nat.lt_of_le_of_lt hf.size (by omega)
  have hv0 := hv w (Fr.refl _ w)
  obtain ⟨ad, c, rfl, hrd⟩ := ints_reads hv0
  have HC : Hid (Calls Tryz.prog 14 #[.pointer (some ⟨b, 0, none⟩), .int .i64 a] w fun e w1 => e = .returned (.bool (sIs s a)) ∧ Below w.heap.size w w1 ∧
      Calls Tryz.prog 22 #[.slice ad l.length c] w1 fun e w2 => e = .returned (.bool (riseL l)) ∧ Below w.heap.size w w2) := by
    refine (rsis_any w b s L f a ha h hf (by omega)).mono fun e w1 ⟨he, b1⟩ => ⟨he, b1, ?_⟩
    exact (rrise_any w1 _ l (hv0.below b1) (by omega)).mono fun e w2 ⟨he, b2⟩ => ⟨he, bl_then b1 b2⟩
  have HK : Hid (∀ w1 g, Below w.heap.size w w1 → g ∈ l → Calls Tryz.prog 60 #[.pointer (some ⟨b, 0, none⟩), .int .i64 g] w1 fun e w2 => e = .returned (.bool (sKnown s g)) ∧ Below w.heap.size w w2) := fun w1 g hb hg =>
    (rknown_all w1 b s L f g (hr g hg) (h.below hb) hf (by omega)).mono fun e w2 ⟨he, hb2⟩ => ⟨he, bl_then hb hb2⟩
  have HRD : Hid (∀ (k : Nat) g wr, Below w.heap.size w wr → l[k]? = some g → ∃ a', ad = some a' ∧ wr.cell? (a'.add k) = some (.int .i64 g)) := fun k g wr hb hk => hrd wr (hv0.below hb) k g hk
  have HR := Lib.hid (fun w' (hb : Below w.heap.size w w') v => rret_same h hb v)
  have HST : Hid (∀ w1, Below w.heap.size w w1 → Calls Tryz.prog 18 #[.pointer (some ⟨b, 0, none⟩), .int .i64 a] w1 fun e w2 => e = .returned (.int .i64 (sSets s a)) ∧ Below w.heap.size w w2) := fun w1 hb =>
    (rssets_any w1 b s L f a ha (h.below hb) hf (by omega)).mono fun e w2 ⟨he, hb2⟩ => ⟨he, bl_then hb hb2⟩
  have HKEY : Hid (∀ w1, Below w.heap.size w w1 → Calls Tryz.prog 44 #[.int .i64 22, .slice (some ⟨w1.heap.size, 0, none⟩) 1 1] (w1.alloc (.cells #[.int .i64 a] 3)) fun e w2 => e = .returned (.string (keyL 22 [a])) ∧ Below w.heap.size w w2) := fun w1 hb =>
    (rkey_new1 22 (by decide) (by decide) a ha w1).mono fun e w2 ⟨he, hb2⟩ => ⟨he, bl_then hb hb2⟩
  have hFit1 : (s.setInt (keyL 22 [a]) ((sSets s a : Nat) + 1 : Int)).Fit (f + 2) := hf.setInt _ _
  have HNX : Hid (∀ w1, Below w.heap.size w w1 → sSets s a < 16 → Calls Tryz.prog 61 #[.pointer (some ⟨b, 0, none⟩), .string (keyL 22 [a])] w1 fun e w2 => e = .returned (.int .i64 ((sSets s a : Nat) + 1 : Int)) ∧ RNewTo w b (s.setInt (keyL 22 [a]) ((sSets s a : Nat) + 1 : Int)) L a (sSets s a) l 0 w2) := fun w1 hb h16 => by
    refine (rnext_any w1 b s L (keyL 22 [a]) (h.below hb) hz (hf.val' _) (show sSets s a < _ by omega)).mono fun e w2 hR => ⟨hR.1, ?_⟩
    obtain ⟨_, L2, hS, hT⟩ := RetR.of_below hb hR
    exact ⟨L2, hS, hT⟩
  have HRD2 : Hid (∀ (k : Nat) g wr, RNewTo w b (s.setInt (keyL 22 [a]) ((sSets s a : Nat) + 1 : Int)) L a (sSets s a) l k wr → l[k]? = some g → ∃ a', ad = some a' ∧ wr.cell? (a'.add k) = some (.int .i64 g)) := fun k g wr hN hk => by
    obtain ⟨L', _, hT⟩ := hN
    exact hrd wr (hv wr hT.fr) k g hk
  have HEND : Hid (∀ wr, RNewTo w b (s.setInt (keyL 22 [a]) ((sSets s a : Nat) + 1 : Int)) L a (sSets s a) l l.length wr → RetR w b L (.tuple #[.int .i64 (sSets s a), .int .i64 0]) (putL (s.setInt (keyL 22 [a]) ((sSets s a : Nat) + 1 : Int)) a (sSets s a) l) (.returned (.tuple #[.int .i64 (sSets s a), .int .i64 0])) wr) := fun wr hN => by
    obtain ⟨L', hS, hT⟩ := hN
    rw [List.take_length] at hS
    exact ⟨rfl, L', hS, hT⟩
  have HE : Hid (∀ (k : Nat) g wr, RNewTo w b (s.setInt (keyL 22 [a]) ((sSets s a : Nat) + 1 : Int)) L a (sSets s a) l k wr → l[k]? = some g → sSets s a < 16 →
      Calls Tryz.prog 45 #[.int .i64 a, .int .i64 (sSets s a), .int .i64 g] wr fun e w7 => e = .returned (.string (keyL 23 [a, (sSets s a : Int), g])) ∧
      Calls Tryz.prog 59 #[.pointer (some ⟨b, 0, none⟩), .string (keyL 23 [a, (sSets s a : Int), g]), .int .i64 1] w7 fun e w8 => e = .returned (.tuple #[]) ∧ RNewTo w b (s.setInt (keyL 22 [a]) ((sSets s a : Nat) + 1 : Int)) L a (sSets s a) l (k + 1) w8) := fun k g wr hN hk h16 => by
    obtain ⟨L6, hS6, hT6⟩ := hN
    refine (rsetKey_any wr a (sSets s a) g ha (by omega) (hr g (List.mem_of_getElem? hk))).mono fun e w7 ⟨he, b7⟩ => ⟨he, ?_⟩
    have hkl : k < l.length := (List.getElem?_eq_some_iff.1 hk).1
    have hfk := putL_fit hFit1 a (sSets s a) (l.take k)
    refine (rsetInt_any w7 b _ L6 _ 1 (by decide) (hS6.below b7) (Nat.lt_of_le_of_lt hfk.size (by rw [List.length_take]; omega))).mono fun e w8 hR8 => ⟨hR8.1, ?_⟩
    obtain ⟨_, L8, hS8, hT8⟩ := hR8
    refine ⟨L8, ?_, hT6.trans ((Step.mk (Fr.of_below b7 _) fun _ h => .inl h).trans hT8)⟩
    rw [take_one_more l k g hk, putL_snoc]; exact hS8
  have HGET : Hid (∀ k, k < l.length → ∃ n, l[k]? = some n) := fun k hk => ⟨l[k], List.getElem?_eq_getElem hk⟩
  have HMEM : Hid (∀ (k : Nat) g, l[k]? = some g → g ∈ l) := fun k g hk => List.mem_of_getElem? hk
  have HHIT : Hid (∀ (k : Nat) g, l[k]? = some g → sKnown s g = false → unkL s l = true) := fun k g hk hg => unk_hit hk hg
  have HALL : Hid ((∀ (j : Nat) g, j < l.length → l[j]? = some g → sKnown s g = true) → unkL s l = false) := fun hh => unk_end fun j g hj => hh j g (List.getElem?_eq_some_iff.1 hj).1 hj
  have HU : Hid (sNewL s a l = if sIs s a = false then ((0, 8), s) else if riseL l = false then ((0, 2), s) else if unkL s l then ((0, 8), s) else if 16 ≤ sSets s a then ((0, 7), s)
    else (((sSets s a : Int), 0), putL (s.setInt (keyL 22 [a]) ((sSets s a : Nat) + 1 : Int)) a (sSets s a) l)) := rfl
  have hFit2 := Lib.hid hFit1
  have hb00 := Below.refl w.heap.size w
  clear hFit1
  generalize hRR : RetR w b L = R at *
  clear hRR
  generalize sNewL s a l = res at *
  generalize unkL s l = un at *
  generalize putL (s.setInt (keyL 22 [a]) ((sSets s a : Nat) + 1 : Int)) a (sSets s a) l = s9 at *
  generalize hs1 : s.setInt (keyL 22 [a]) ((sSets s a : Nat) + 1 : Int) = s1 at *
  clear hs1
  generalize sSets s a = n at *
  generalize keyL 22 [a] = k1 at *
  generalize hNT : RNewTo w b s1 L a n l = NT at *
  clear hNT
  clear h hf hz hv hv0 hrd hFit2 hr
  generalize hx : sIs s a = x at *
  generalize hy : riseL l = y at *
  clear hx hy
  generalize hlm : l.length = m at *
  have HLM := Lib.hid hlm
  clear hlm
  cases x with
  | false =>
    have hres : res = ((0, 8), s) := HU.out
    subst hres
    clear HU
    go_enter Tryz.func30, Tryz.ntmps30
    go_wp2_with fail
    refine Calls.mono HC.out ?_
    rintro e w1 ⟨rfl, hb1, hC⟩
    clear hC HC
    go_wp2_with fail
    exact HR.out _ hb1 _
  | true =>
  cases y with
  | false =>
    have hres : res = ((0, 2), s) := HU.out
    subst hres
    clear HU
    go_enter Tryz.func30, Tryz.ntmps30
    go_wp2_with fail
    refine Calls.mono HC.out ?_
    rintro e w1 ⟨rfl, hb1, hC⟩
    have HC1 := Lib.hid hC
    clear hC HC
    go_wp2_with fail
    refine Calls.mono HC1.out ?_
    rintro e w2 ⟨rfl, hb2⟩
    clear HC1
    go_wp2_with fail
    exact HR.out _ hb2 _
  | true =>
    have HU2 : Hid (res = if un = true then ((0, 8), s) else if 16 ≤ n then ((0, 7), s) else (((n : Int), 0), s9)) := HU.out
    clear HU
    go_enter Tryz.func30, Tryz.ntmps30
    go_wp2_with fail
    refine Calls.mono HC.out ?_
    rintro e w1 ⟨rfl, hb1, hC⟩
    have HC1 := Lib.hid hC
    clear hC HC
    go_wp2_with fail
    refine Calls.mono HC1.out ?_
    rintro e w2 ⟨rfl, hb2⟩
    clear HC1
    go_wp2_with fail
    go_loopw [22] (fun i wr => ∃ k : Nat, i = .int .i64 k ∧ k ≤ m ∧ (∀ (j : Nat) g, j < k → l[j]? = some g → sKnown s g = true) ∧ Below w.heap.size w wr) (fun i _ => m - (intOf i).toNat)
    case atStart => exact ⟨0, rfl, by omega, fun j g hj _ => by omega, hb2⟩
    case round =>
      obtain ⟨k, rfl, hk, hS, hB⟩ := hrel
      have HS := Lib.hid hS
      have HB := Lib.hid hB
      clear hS hB
      by_cases hlt : k < m
      · obtain ⟨g, hg⟩ := HGET.out k hlt
        obtain ⟨a', rfl, hc⟩ := HRD.out k g wr HB.out hg
        have HKK := Lib.hid (HK.out wr g HB.out (HMEM.out k g hg))
        have HG := Lib.hid hg
        clear hg
        cases hkn : sKnown s g with
        | false =>
          have hun := HHIT.out k g HG.out hkn
          have hres : res = ((0, 8), s) := by rw [HU2.out, hun]; rfl
          subst hres
          rw [hkn] at HKK
          clear HU2
          go_wp2_with fail
          refine Calls.mono HKK.out ?_
          rintro e w3 ⟨rfl, hb3⟩
          go_wp2_with fail
          exact HR.out _ hb3 _
        | true =>
          have HR3 : Hid (∀ (j : Nat) g', j < k + 1 → l[j]? = some g' → sKnown s g' = true) := fun j g' hj hg' => by
            by_cases e : j = k
            · subst e; rw [HG.out] at hg'; cases hg'; exact hkn
            · exact HS.out j g' (by omega) hg'
          rw [hkn] at HKK
          go_wp2_with fail
          refine Calls.mono HKK.out ?_
          rintro e w3 ⟨rfl, hb3⟩
          have HB3 := Lib.hid hb3
          clear hb3
          go_wp2_with fail
          go_roundw
          case rel => exact ⟨k + 1, by go_num, by omega, HR3.out, HB3.out⟩
          case measure => simp [intOf]; omega
      · obtain rfl : k = m := by omega
        have hun := HALL.out HS.out
        subst hun
        have HST1 := Lib.hid (HST.out wr HB.out)
        by_cases h16 : 16 ≤ n
        · have hd16 : decide ((16 : Int) ≤ (n : Int)) = true := decide_eq_true (by omega)
          have hres : res = ((0, 7), s) := by rw [HU2.out, if_neg (by decide), if_pos h16]
          subst hres
          clear HU2
          go_wp2_with fail
          refine Calls.mono HST1.out ?_
          rintro e w3 ⟨rfl, hb3⟩
          go_wp2_with fail
          exact HR.out _ hb3 _
        · have hd16 : decide ((16 : Int) ≤ (n : Int)) = false := decide_eq_false (by omega)
          have hres : res = (((n : Int), 0), s9) := by rw [HU2.out, if_neg (by decide), if_neg h16]
          subst hres
          have hn16 : ((n : Nat) + 1 : Int) - 1 = (n : Int) := by omega
          have hn17 : n < 16 := by omega
          clear HU2
          go_wp2_with fail
          refine Calls.mono HST1.out ?_
          rintro e w3 ⟨rfl, hb3⟩
          go_wp2_with fail
          refine Calls.mono (HKEY.out w3 hb3) ?_
          rintro e w4 ⟨rfl, hb4⟩
          go_wp2_with fail
          refine Calls.mono (HNX.out w4 hb4 hn17) ?_
          rintro e w5 ⟨rfl, hN0⟩
          have HN0 := Lib.hid hN0
          clear hN0 hb3 hb4 HST HST1 HB HKEY HNX HK HS HRD
          go_wp2_with fail
          go_loopw [43] (fun i wr => ∃ k2 : Nat, i = .int .i64 k2 ∧ k2 ≤ k ∧ NT k2 wr) (fun i _ => k - (intOf i).toNat)
          case atStart => exact ⟨0, rfl, by omega, HN0.out⟩
          case round =>
            obtain ⟨k2, rfl, hk2, hNk⟩ := hrel
            have HNK := Lib.hid hNk
            clear hNk HN0
            by_cases hlt2 : k2 < k
            · obtain ⟨g, hg⟩ := HGET.out k2 hlt2
              obtain ⟨a', rfl, hc⟩ := HRD2.out k2 g _ HNK.out hg
              have HE1 := Lib.hid (HE.out k2 g _ HNK.out hg hn17)
              clear hg
              go_wp2_with fail
              refine Calls.mono HE1.out ?_
              rintro e w7 ⟨rfl, hC⟩
              have HE2 := Lib.hid hC
              clear hC HE1
              go_wp2_with fail
              refine Calls.mono HE2.out ?_
              rintro e w8 ⟨rfl, hN8⟩
              have HN8 := Lib.hid hN8
              clear hN8 HE2
              go_wp2_with fail
              go_roundw
              case rel => exact ⟨k2 + 1, by go_num, by omega, HN8.out⟩
              case measure => simp [intOf]; omega
            · obtain rfl : k2 = k := by omega
              have HEE := Lib.hid (HEND.out _ HNK.out)
              go_wp2_with fail
              exact HEE.out
end Go.Proofs.YtnblhjndngpbnaaGreat
