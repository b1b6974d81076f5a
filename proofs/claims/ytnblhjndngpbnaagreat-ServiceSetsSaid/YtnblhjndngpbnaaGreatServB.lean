/- What is proved here: Rise of any list of ints that came in, the program's and the reference's; is any strategy of a list unknown? Their conditions: sizes. -/
import Derived.Test.YtnblhjndngpbnaaGreatServA
namespace Go.Proofs.YtnblhjndngpbnaaGreat
open Go.RowKit

theorem risesL_iff (l : List Int) : risesL l = true ↔ ∀ j x y, l[j]? = some x → l[j + 1]? = some y → x < y := by
  induction l with
  | nil => exact ⟨fun _ j x y hx => by simp at hx, fun _ => rfl⟩
  | cons a l ih =>
    cases l with
    | nil => exact ⟨fun _ j x y hx hy => by simp at hy, fun _ => rfl⟩
    | cons b l =>
      rw [show risesL (a :: b :: l) = (decide (a < b) && risesL (b :: l)) from rfl, Bool.and_eq_true, decide_eq_true_iff, ih]
      constructor
      · rintro ⟨h1, h2⟩ j x y hx hy
        cases j with
        | zero => simp at hx hy; omega
        | succ j => exact h2 j x y (by simpa using hx) (by simpa using hy)
      · intro h
        exact ⟨h 0 a b rfl rfl, fun j x y hx hy => h (j + 1) x y (by simpa using hx) (by simpa using hy)⟩

theorem ints_reads {w : World} {v : Value} {l : List Int} (hv : IntsAt w v l) : ∃ ad c, v = .slice ad l.length c ∧ ∀ wr, IntsAt wr v l → ∀ (k : Nat) n, l[k]? = some n → ∃ a, ad = some a ∧ wr.cell? (a.add k) = some (.int .i64 n) := by
  obtain ⟨ad, c, hve⟩ : ∃ ad c, v = .slice ad l.length c := by
    rcases hv with ⟨rfl, rfl⟩ | ⟨a, c, h1, _⟩
    · exact ⟨none, 0, rfl⟩
    · exact ⟨some a, c, h1⟩
  refine ⟨ad, c, hve, fun wr h k n hk => ?_⟩
  rcases h with ⟨_, rfl⟩ | ⟨a, c', h1, h3⟩
  · simp at hk
  · have : ad = some a := by rw [hve] at h1; cases h1; rfl
    exact ⟨a, this, h3 k n hk⟩

/-- Behind k rounds of Rise. -/
def RiseTo (l : List Int) (w : World) (k : Nat) (wr : World) : Prop := (∀ j x y, j + 1 < k → l[j]? = some x → l[j + 1]? = some y → x < y) ∧ Below w.heap.size w wr

theorem rise_no {l : List Int} {k : Nat} {x y : Int} (hx : l[k]? = some x) (hy : l[k + 1]? = some y) (h : y ≤ x) : riseL l = false := by
  unfold riseL
  have : risesL l = false := by
    rw [Bool.eq_false_iff]
    intro h1
    have := (risesL_iff l).1 h1 k x y hx hy
    omega
  rw [this]; rfl
theorem rise_end {l : List Int} {w wr : World} {k : Nat} (hk : l.length ≤ k) (h : RiseTo l w k wr) : riseL l = (decide (1 ≤ l.length) && decide (l.length ≤ 8)) := by
  unfold riseL
  rw [(risesL_iff l).2 fun j x y hx hy => h.1 j x y (by have := (List.getElem?_eq_some_iff.1 hy).1; omega) hx hy, Bool.true_and]
theorem RiseTo.next {l : List Int} {w wr w' : World} {k : Nat} {x y : Int} (h : RiseTo l w (k + 1) wr) (hx : l[k]? = some x) (hy : l[k + 1]? = some y) (hxy : x < y) (hb : Below wr.heap.size wr w') : RiseTo l w (k + 2) w' :=
  ⟨fun j u v hj hu hv => by
    by_cases e : j = k
    · subst e
      rw [hx] at hu; rw [hy] at hv
      cases hu; cases hv; exact hxy
    · exact h.1 j u v (by omega) hu hv, h.2.trans (hb.mono h.2.size)⟩
theorem RiseTo.first {l : List Int} {w wr w' : World} (h : RiseTo l w 0 wr) (hb : Below wr.heap.size wr w') : RiseTo l w 1 w' :=
  ⟨fun j u v hj _ _ => by omega, h.2.trans (hb.mono h.2.size)⟩

set_option maxRecDepth 100000 in
set_option maxHeartbeats 4000000 in
theorem rise_any (w : World) (v : Value) (l : List Int) (hv : IntsAt w v l) (hl : l.length < 1000000000) :
    Calls Tryz.prog 21 #[v] w (RetBool w (riseL l)) := by
  obtain ⟨ad, c, rfl, hr⟩ := ints_reads hv
  have HC : Hid (∀ wr (k : Nat) n k', RiseTo l w k' wr → l[k]? = some n → ∃ a, ad = some a ∧ wr.cell? (a.add k) = some (.int .i64 n)) := fun wr k n k' hb hk => hr wr (hv.below hb.2) k n hk
  have HN : Hid (∀ k x y wr, l[k]? = some x → l[k + 1]? = some y → y ≤ x → RiseTo l w (k + 1) wr → ∀ q, RetBool w (riseL l) (.returned (.bool false)) (wr.drewN q)) := fun k x y wr hx hy h hb q => ⟨by rw [rise_no hx hy h], below_drewN hb.2 q⟩
  have HE : Hid (∀ r wr, RiseTo l w l.length wr → (decide (1 ≤ l.length) && decide (l.length ≤ 8)) = r → RetBool w (riseL l) (.returned (.bool r)) wr) := fun r wr hb h => ⟨by rw [rise_end (Nat.le_refl _) hb, h], hb.2⟩
  have HGET : Hid (∀ k, k < l.length → ∃ n, l[k]? = some n) := fun k hk => ⟨l[k], List.getElem?_eq_getElem hk⟩
  have H0 : Hid (RiseTo l w 0 w) := ⟨fun j _ _ hj _ _ => by omega, Below.refl _ _⟩
  clear hr hv
  generalize RetBool w (riseL l) = R at *
  generalize hKT : RiseTo l w = KT at *
  have HNX : Hid (∀ k x y wr, KT (k + 1) wr → l[k]? = some x → l[k + 1]? = some y → x < y → ∀ q, KT (k + 2) (wr.drewN q)) := fun k x y wr h hx hy hxy q => by
    subst hKT; exact h.next hx hy hxy (below_drewN (Below.refl _ _) q)
  have HNF : Hid (∀ wr, KT 0 wr → ∀ q, KT 1 (wr.drewN q)) := fun wr h q => by
    subst hKT; exact h.first (below_drewN (Below.refl _ _) q)
  clear hKT
  generalize hm : l.length = m at *
  have HM := Lib.hid hm
  clear hm
  go_enter Tryz.func21, Tryz.ntmps21
  go_wp2_with fail
  go_loopw [6] (fun i wr => ∃ k : Nat, i = .int .i64 k ∧ k ≤ m ∧ KT k wr) (fun i _ => m - (intOf i).toNat)
  case atStart => exact ⟨0, rfl, by omega, H0.out⟩
  case round =>
    obtain ⟨k, rfl, hk, hN⟩ := hrel
    have HK := Lib.hid hN
    clear hN H0
    by_cases hlt : k < m
    · obtain ⟨y, hy⟩ := HGET.out k hlt
      obtain ⟨a, rfl, hc⟩ := HC.out wr k y k HK.out hy
      by_cases hk0 : k = 0
      · subst hk0
        have HR := Lib.hid (HNF.out _ HK.out)
        go_wp2_with fail
        go_quiet (fail)
        go_wp2
        go_roundw
        case rel => exact ⟨1, by go_num, by omega, HR.out _⟩
        case measure => simp [intOf]; omega
      · obtain ⟨j, hj⟩ : ∃ j, k = j + 1 := ⟨k - 1, by omega⟩
        have HJ := Lib.hid hj
        obtain ⟨x, hx⟩ := HGET.out j (by omega)
        obtain ⟨a', e, hc2⟩ := HC.out wr j x _ HK.out hx
        cases e
        have hj0 : decide ((0 : Int) < (k : Int)) = true := decide_eq_true (by omega)
        have hjm : j < m := by omega
        have hj2 : decide ((j : Int) < (m : Int)) = true := decide_eq_true (by omega)
        have hj3 : decide (j < m) = true := decide_eq_true hjm
        have hj1 : decide (0 < k) = true := decide_eq_true (by omega)
        have hw : IntKind.i64.wrap ((k : Int) - 1) = (j : Int) := by rw [show ((k : Int) - 1) = (j : Int) by omega]; exact IntWalk.i64_in _ (by omega)
        have HK1 : Hid (KT (j + 1) wr) := by rw [← hj]; exact HK.out
        have HY : Hid (l[j + 1]? = some y) := by rw [← hj]; exact hy
        have HX := Lib.hid hx
        clear hy hx hj
        by_cases hxy : y ≤ x
        · have hd : decide (y ≤ x) = true := decide_eq_true hxy
          have HR := Lib.hid (HN.out j x y wr HX.out HY.out hxy HK1.out)
          go_wp2_with fail
          go_quiet (fail)
          go_wp2
          exact HR.out _
        · have hd : decide (y ≤ x) = false := decide_eq_false hxy
          have HR := Lib.hid (HNX.out j x y wr HK1.out HX.out HY.out (by omega))
          go_wp2_with fail
          go_quiet (fail)
          go_wp2
          go_roundw
          case rel => exact ⟨j + 2, by have := HJ.out; go_num, by have := HJ.out; omega, HR.out _⟩
          case measure => simp [intOf]; omega
    · obtain rfl : k = m := by omega
      by_cases h1 : 1 ≤ k
      · have d1 : decide ((1 : Int) ≤ (k : Int)) = true := decide_eq_true (by omega)
        by_cases h8 : k ≤ 8
        · have d8 : decide ((k : Int) ≤ 8) = true := decide_eq_true (by omega)
          have HR := Lib.hid (HE.out true wr HK.out (by simp [h1, h8]))
          go_wp2_with fail
          exact HR.out
        · have d8 : decide ((k : Int) ≤ 8) = false := decide_eq_false (by omega)
          have HR := Lib.hid (HE.out false wr HK.out (by simp [h8]))
          go_wp2_with fail
          exact HR.out
      · have d1 : decide ((1 : Int) ≤ (k : Int)) = false := decide_eq_false (by omega)
        have HR := Lib.hid (HE.out false wr HK.out (by simp [h1]))
        go_wp2_with fail
        exact HR.out
set_option maxRecDepth 100000 in
set_option maxHeartbeats 4000000 in
theorem rrise_any (w : World) (v : Value) (l : List Int) (hv : IntsAt w v l) (hl : l.length < 1000000000) :
    Calls Tryz.prog 22 #[v] w (RetBool w (riseL l)) := by
  obtain ⟨ad, c, rfl, hr⟩ := ints_reads hv
  have HC : Hid (∀ wr (k : Nat) n k', RiseTo l w k' wr → l[k]? = some n → ∃ a, ad = some a ∧ wr.cell? (a.add k) = some (.int .i64 n)) := fun wr k n k' hb hk => hr wr (hv.below hb.2) k n hk
  have HN : Hid (∀ k x y wr, l[k]? = some x → l[k + 1]? = some y → y ≤ x → RiseTo l w (k + 1) wr → ∀ q, RetBool w (riseL l) (.returned (.bool false)) (wr.drewN q)) := fun k x y wr hx hy h hb q => ⟨by rw [rise_no hx hy h], below_drewN hb.2 q⟩
  have HE : Hid (∀ r k wr, l.length ≤ k → RiseTo l w k wr → (decide (1 ≤ l.length) && decide (l.length ≤ 8)) = r → RetBool w (riseL l) (.returned (.bool r)) wr) := fun r k wr hk hb h => ⟨by rw [rise_end hk hb, h], hb.2⟩
  have HGET : Hid (∀ k, k < l.length → ∃ n, l[k]? = some n) := fun k hk => ⟨l[k], List.getElem?_eq_getElem hk⟩
  have H0 : Hid (RiseTo l w 1 w) := ⟨fun j _ _ hj _ _ => by omega, Below.refl _ _⟩
  clear hr hv
  generalize RetBool w (riseL l) = R at *
  generalize hKT : RiseTo l w = KT at *
  have HNX : Hid (∀ k x y wr, KT (k + 1) wr → l[k]? = some x → l[k + 1]? = some y → x < y → ∀ q, KT (k + 2) (wr.drewN q)) := fun k x y wr h hx hy hxy q => by
    subst hKT; exact h.next hx hy hxy (below_drewN (Below.refl _ _) q)
  clear hKT
  generalize hm : l.length = m at *
  have HM := Lib.hid hm
  clear hm
  go_enter Tryz.func22, Tryz.ntmps22
  go_wp2_with fail
  go_loopw [3] (fun i wr => ∃ k : Nat, i = .int .i64 k ∧ 1 ≤ k ∧ k ≤ m + 1 ∧ KT k wr) (fun i _ => m + 1 - (intOf i).toNat)
  case atStart => exact ⟨1, rfl, by omega, by omega, H0.out⟩
  case round =>
    obtain ⟨k, rfl, hk1, hk, hN⟩ := hrel
    have HK := Lib.hid hN
    clear hN H0
    by_cases hlt : k < m
    · obtain ⟨y, hy⟩ := HGET.out k hlt
      obtain ⟨a, rfl, hc⟩ := HC.out wr k y k HK.out hy
      obtain ⟨j, hj⟩ : ∃ j, k = j + 1 := ⟨k - 1, by omega⟩
      have HJ := Lib.hid hj
      obtain ⟨x, hx⟩ := HGET.out j (by omega)
      obtain ⟨a', e, hc2⟩ := HC.out wr j x _ HK.out hx
      cases e
      have hjm : j < m := by omega
      have hj2 : decide ((j : Int) < (m : Int)) = true := decide_eq_true (by omega)
      have hj3 : decide (j < m) = true := decide_eq_true hjm
      have hw : IntKind.i64.wrap ((k : Int) - 1) = (j : Int) := by rw [show ((k : Int) - 1) = (j : Int) by omega]; exact IntWalk.i64_in _ (by omega)
      have HK1 : Hid (KT (j + 1) wr) := by rw [← hj]; exact HK.out
      have HY : Hid (l[j + 1]? = some y) := by rw [← hj]; exact hy
      have HX := Lib.hid hx
      clear hy hx hj
      by_cases hxy : y ≤ x
      · have hd : decide (y ≤ x) = true := decide_eq_true hxy
        have HR := Lib.hid (HN.out j x y wr HX.out HY.out hxy HK1.out)
        go_wp2_with fail
        go_quiet (fail)
        go_wp2
        exact HR.out _
      · have hd : decide (y ≤ x) = false := decide_eq_false hxy
        have HR := Lib.hid (HNX.out j x y wr HK1.out HX.out HY.out (by omega))
        go_wp2_with fail
        go_quiet (fail)
        go_wp2
        go_roundw
        case rel => exact ⟨j + 2, by have := HJ.out; go_num, by omega, by have := HJ.out; omega, HR.out _⟩
        case measure => simp [intOf]; omega
    · by_cases h1 : 1 ≤ m
      · have d1 : decide ((1 : Int) ≤ (m : Int)) = true := decide_eq_true (by omega)
        by_cases h8 : m ≤ 8
        · have d8 : decide ((m : Int) ≤ 8) = true := decide_eq_true (by omega)
          have HR := Lib.hid (HE.out true k wr (by omega) HK.out (by simp [h1, h8]))
          go_wp2_with fail
          exact HR.out
        · have d8 : decide ((m : Int) ≤ 8) = false := decide_eq_false (by omega)
          have HR := Lib.hid (HE.out false k wr (by omega) HK.out (by simp [h8]))
          go_wp2_with fail
          exact HR.out
      · have d1 : decide ((1 : Int) ≤ (m : Int)) = false := decide_eq_false (by omega)
        have HR := Lib.hid (HE.out false k wr (by omega) HK.out (by simp [h1]))
        go_wp2_with fail
        exact HR.out

/-- Is any strategy unknown? -/
def unkL (s : St) (l : List Int) : Bool := l.any fun g => !sKnown s g
theorem unk_hit {s : St} {l : List Int} {k : Nat} {g : Int} (h : l[k]? = some g) (hg : sKnown s g = false) : unkL s l = true :=
  List.any_eq_true.2 ⟨g, List.mem_of_getElem? h, by rw [hg]; rfl⟩
theorem unk_end {s : St} {l : List Int} (h : ∀ (j : Nat) g, l[j]? = some g → sKnown s g = true) : unkL s l = false := by
  unfold unkL
  rw [List.any_eq_false]
  intro g hg
  obtain ⟨j, hj⟩ := List.getElem?_of_mem hg
  rw [h j g hj]; decide

set_option maxRecDepth 100000 in
set_option maxHeartbeats 2000000 in
theorem unknown_all (w : World) (b : Nat) (s : St) (L : List Nat) (f : Nat) (n : Int) (p : Nat) (hn : n < 9223372036854775808) (h : SRep w b s L) (hf : s.Fit f) (hp : w.cell? ⟨p, 0, none⟩ = some (.pointer (some ⟨b, 0, none⟩))) :
    Calls Tryz.prog 55 #[.int .i64 n, .pointer (some ⟨p, 0, none⟩)] w fun e w' => e = .returned (.bool (!sKnown s n)) ∧ Below w.heap.size w w' := by
  have HO := Lib.hid (known_all w b s L f n hn h hf)
  generalize sKnown s n = kn at *
  clear h hf
  go_enter Tryz.func55, Tryz.ntmps55
  go_wp2_with (go_at_call 56; refine HO.out.mono ?_; rintro e w1 ⟨rfl, hb1⟩)
  go_ret
  exact ⟨rfl, hb1⟩

set_option maxRecDepth 100000 in
set_option maxHeartbeats 4000000 in
theorem indexF_all (w : World) (b : Nat) (s : St) (L : List Nat) (f : Nat) (v : Value) (l : List Int) (p : Nat) (hv : IntsAt w v l) (hl : l.length < 1000000000) (hr : ∀ n ∈ l, n < 9223372036854775808) (h : SRep w b s L) (hf : s.Fit f) (hp : w.cell? ⟨p, 0, none⟩ = some (.pointer (some ⟨b, 0, none⟩))) :
    Calls Tryz.prog 84 #[v, .func (.func 55) #[] #[.pointer (some ⟨p, 0, none⟩)]] w fun e w' => ∃ i : Int, e = .returned (.int .i64 i) ∧ decide (0 ≤ i) = unkL s l ∧ Below w.heap.size w w' := by
  obtain ⟨ad, c, rfl, hrd⟩ := ints_reads hv
  have HC : Hid (∀ wr (k : Nat) n, Below w.heap.size w wr → l[k]? = some n → ∃ a, ad = some a ∧ wr.cell? (a.add k) = some (.int .i64 n)) := fun wr k n hb hk => hrd wr (hv.below hb) k n hk
  have HU : Hid (∀ wr (k : Nat) n, Below w.heap.size w wr → l[k]? = some n → Calls Tryz.prog 55 #[.int .i64 n, .pointer (some ⟨p, 0, none⟩)] wr fun e w' => e = .returned (.bool (!sKnown s n)) ∧ Below w.heap.size w w') := fun wr k n hb hk =>
    (unknown_all wr b s L f n p (hr n (List.mem_of_getElem? hk)) (h.below hb) hf (bl_cell hb hp)).mono fun e w' ⟨he, hb2⟩ => ⟨he, bl_then hb hb2⟩
  have HGET : Hid (∀ k, k < l.length → ∃ n, l[k]? = some n) := fun k hk => ⟨l[k], List.getElem?_eq_getElem hk⟩
  have HHIT : Hid (∀ (k : Nat) g, l[k]? = some g → sKnown s g = false → decide (0 ≤ (k : Int)) = unkL s l) := fun k g hk hg => by rw [unk_hit hk hg]; exact decide_eq_true (by omega)
  have HEND : Hid ((∀ j g, j < l.length → l[j]? = some g → sKnown s g = true) → decide (0 ≤ (-1 : Int)) = unkL s l) := fun hh => by rw [unk_end fun j g hj => hh j g (List.getElem?_eq_some_iff.1 hj).1 hj]; rfl
  have hb00 := Below.refl w.heap.size w
  clear hrd hv h hf hp hr
  generalize hm : l.length = m at *
  have HM := Lib.hid hm
  clear hm
  go_enter Tryz.func84, Tryz.ntmps84
  go_wp2_with fail
  go_loopw [8] (fun i wr => ∃ k : Nat, i = .int .i64 k ∧ k ≤ m ∧ (∀ j g, j < k → l[j]? = some g → sKnown s g = true) ∧ Below w.heap.size w wr) (fun i _ => m - (intOf i).toNat)
  case atStart => exact ⟨0, rfl, by omega, fun j g hj _ => by omega, hb00⟩
  case round =>
    obtain ⟨k, rfl, hk, hS, hB⟩ := hrel
    have HS := Lib.hid hS
    have HB := Lib.hid hB
    clear hS hB
    by_cases hlt : k < m
    · obtain ⟨y, hy⟩ := HGET.out k hlt
      obtain ⟨a, rfl, hc⟩ := HC.out wr k y HB.out hy
      have HUK := Lib.hid (HU.out wr k y HB.out hy)
      have HY := Lib.hid hy
      clear hy
      cases hkn : sKnown s y with
      | false =>
        have HR := Lib.hid (HHIT.out k y HY.out hkn)
        rw [hkn] at HUK
        go_wp2_with fail
        refine Calls.mono HUK.out ?_
        rintro e w1 ⟨rfl, hb1⟩
        have HB1 := Lib.hid hb1
        clear hb1
        go_wp2_with fail
        go_ret
        exact ⟨_, rfl, HR.out, HB1.out⟩
      | true =>
        have HR : Hid (∀ j g, j < k + 1 → l[j]? = some g → sKnown s g = true) := fun j g hj hg => by
          by_cases e : j = k
          · subst e; rw [HY.out] at hg; cases hg; exact hkn
          · exact HS.out j g (by omega) hg
        rw [hkn] at HUK
        go_wp2_with fail
        refine Calls.mono HUK.out ?_
        rintro e w1 ⟨rfl, hb1⟩
        have HB1 := Lib.hid hb1
        clear hb1
        go_wp2_with fail
        go_roundw
        case rel => exact ⟨k + 1, by go_num, by omega, HR.out, HB1.out⟩
        case measure => simp [intOf]; omega
    · obtain rfl : k = m := by omega
      have HR := Lib.hid (HEND.out HS.out)
      go_wp2_with fail
      go_ret
      exact ⟨_, rfl, HR.out, HB.out⟩

set_option maxRecDepth 100000 in
set_option maxHeartbeats 2000000 in
theorem containsF_all (w : World) (b : Nat) (s : St) (L : List Nat) (f : Nat) (v : Value) (l : List Int) (p : Nat) (hv : IntsAt w v l) (hl : l.length < 1000000000) (hr : ∀ n ∈ l, n < 9223372036854775808) (h : SRep w b s L) (hf : s.Fit f) (hp : w.cell? ⟨p, 0, none⟩ = some (.pointer (some ⟨b, 0, none⟩))) :
    Calls Tryz.prog 54 #[v, .func (.func 55) #[] #[.pointer (some ⟨p, 0, none⟩)]] w (RetBool w (unkL s l)) := by
  have HI := Lib.hid (indexF_all w b s L f v l p hv hl hr h hf hp)
  obtain ⟨ad, c, rfl, _⟩ := ints_reads hv
  generalize unkL s l = u at *
  clear h hf hp hv hr
  go_enter Tryz.func54, Tryz.ntmps54
  go_wp2_with fail
  refine HI.out.mono ?_
  rintro e w1 ⟨i, rfl, hi, hb1⟩
  go_wp2_with fail
  go_ret
  exact ⟨rfl, hb1⟩
end Go.Proofs.YtnblhjndngpbnaaGreat
