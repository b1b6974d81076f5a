/- What is proved here: the walk of ServiceSets. Its condition: the acts' numbers are ints of 64 bits. -/
import Derived.Test.YtnblhjndngpbnaaGreatServW
import Derived.Test.YtnblhjndngpbnaaGreatServQ
namespace Go.Proofs.YtnblhjndngpbnaaGreat
open Go.RowKit

/-- Where the law's loop stands. -/
def SSetsAt (w : World) (b m k : Nat) (wr : World) : Prop := ∃ s : St, s.Fit (64 * k) ∧ SInv s ∧ TwoX w b m s s [] wr

/-- Inside a round: the act's box, and the set's strategies. -/
def SetsIn (w : World) (b m bx : Nat) (x : A26) (s : St) (ad : Option Addr) (wv : World) : Prop := TwoX w b m s s [(bx, .cells #[.int .i64 x.k, .int .i64 x.who, .int .i64 x.set, .int .i64 x.g, .slice x.ad x.l.length x.c] 34)] wv ∧ IntsLie wv ad (strL s x.who x.set)

theorem SetsIn.below {w : World} {b m bx : Nat} {x : A26} {s : St} {ad : Option Addr} {wv w' : World} (h : SetsIn w b m bx x s ad wv) (hb : Below wv.heap.size wv w') : SetsIn w b m bx x s ad w' := ⟨h.1.below hb, h.2.below hb⟩
theorem SetsIn.box {w : World} {b m bx : Nat} {x : A26} {s : St} {ad : Option Addr} {wv : World} (h : SetsIn w b m bx x s ad wv) : ActB bx x wv := ⟨h.1.top 0 rfl, h.1.top 1 rfl, h.1.top 2 rfl, h.1.top 3 rfl, h.1.top 4 rfl⟩

theorem sset_round {w wr : World} {b m k : Nat} (h : SSetsAt w b m k wr) (hk : k < 1000) (x : A26) (hl : x.l.length ≤ 30) (hv : IntsAt w (.slice x.ad x.l.length x.c) x.l) (hlt : x.who < 9223372036854775808 ∧ x.set < 9223372036854775808 ∧ x.g < 9223372036854775808 ∧ ∀ n ∈ x.l, n < 9223372036854775808) :
    Calls Tryz.prog 8 #[.pointer (some ⟨b, 0, none⟩), .pointer (some ⟨m, 0, none⟩), .agg #[.int .i64 x.k, .int .i64 x.who, .int .i64 x.set, .int .i64 x.g, .slice x.ad x.l.length x.c]] (wr.alloc (.cells #[.int .i64 x.k, .int .i64 x.who, .int .i64 x.set, .int .i64 x.g, .slice x.ad x.l.length x.c] 34)) fun e w1 => e = .returned (.bool true) ∧ ActB wr.heap.size x w1 ∧
    Calls Tryz.prog 9 #[.pointer (some ⟨b, 0, none⟩), .int .i64 x.who, .int .i64 x.set] w1 fun e w2 => ∃ ad c s, e = .returned (.slice ad (strL s x.who x.set).length c) ∧ s.Fit (64 * (k + 1)) ∧ SInv s ∧ SetsIn w b m wr.heap.size x s ad w2 := by
  obtain ⟨s, hf, hg, hT⟩ := h
  have hB := hT.box (.cells #[.int .i64 x.k, .int .i64 x.who, .int .i64 x.set, .int .i64 x.g, .slice x.ad x.l.length x.c] 34)
  have f1 := sAct_fit hf x.k x.who x.set x.g hl
  obtain ⟨hw, hs, hgx, hr⟩ := hlt
  have g1 := hg.act x.k hw hs hgx hr
  refine (act26_any hB hf (by omega) hg.good x.k x.who x.set x.g hw hs hgx hv hl hr).mono fun e w1 ⟨he, h1⟩ => ⟨he, ⟨h1.top 0 rfl, h1.top 1 rfl, h1.top 2 rfl, h1.top 3 rfl, h1.top 4 rfl⟩, ?_⟩
  generalize hs1 : sAct s x.k x.who x.set x.g x.l = s1 at *
  obtain ⟨L, hS⟩ := h1.two.srep
  refine (sstrs_any w1 b s1 L _ x.who x.set hw hs hS f1 (by omega) g1.good.2.short g1.good.2.noE).mono fun e w2 ⟨v, he, hr, hb⟩ => ?_
  obtain ⟨a6, c6, rfl, hn6⟩ := (row_own hr).nums
  exact ⟨a6, c6, s1, he, f1.mono (by omega), g1, h1.below hb, hn6⟩

theorem rise_at {l : List Int} (h : l.Pairwise (· < ·)) {j : Nat} {x y : Int} (hx : l[j]? = some x) (hy : l[j + 1]? = some y) : x < y := by
  obtain ⟨h1, e1⟩ := List.getElem?_eq_some_iff.1 hx
  obtain ⟨h2, e2⟩ := List.getElem?_eq_some_iff.1 hy
  rw [← e1, ← e2]
  exact List.pairwise_iff_getElem.1 h j (j + 1) h1 h2 (by omega)
theorem found_step {l : List Int} {k : Nat} {y g : Int} (hy : l[k]? = some y) : (decide (g ∈ l.take k) || (y == g)) = decide (g ∈ l.take (k + 1)) := by
  rw [take_one_more l k y hy, Bool.eq_iff_iff, Bool.or_eq_true, decide_eq_true_iff, decide_eq_true_iff, beq_iff_eq, List.mem_append, List.mem_singleton]
  constructor
  · rintro (h | h)
    · exact .inl h
    · exact .inr h.symm
  · rintro (h | h)
    · exact .inl h
    · exact .inr h.symm

set_option maxRecDepth 100000 in
set_option maxHeartbeats 16000000 in
theorem ssets_walk (w : World) (a : Option Addr) (c : Nat) (l : List A26) (h : Acts26In w a l) : Calls Tryz.prog 3 #[.slice a l.length c] w fun e w' => e = .returned (.bool true) ∧ Below w.heap.size w w' := by
  have HLT := Lib.hid (light_any w a c l h)
  have HL : Hid (∀ w1, Below w.heap.size w w1 → Calls Tryz.prog 6 #[] w1 fun e w' => e = .returned (.bool true) ∧ Below w.heap.size w w') := fun w1 hb => (lives26 w1).mono fun e w' ⟨he, hb2⟩ => ⟨he, bl_then hb hb2⟩
  cases hll : lightL l with
  | false =>
    rw [hll] at HLT
    clear h hll
    generalize l.length = n at *
    go_enter Tryz.func3, Tryz.ntmps3
    go_wp2_with fail
    refine HLT.out.mono ?_
    rintro e w1 ⟨rfl, hb1⟩
    go_wp2_with fail
    refine Calls.mono (HL.out w1 hb1) ?_
    rintro e w2 ⟨rfl, hb2⟩
    go_wp2_with fail
    go_ret
    exact ⟨rfl, hb2⟩
  | true =>
    rw [hll] at HLT
    obtain ⟨hl100, h30⟩ : l.length ≤ 100 ∧ ∀ x ∈ l, x.l.length ≤ 30 := by
      unfold lightL at hll
      rw [Bool.and_eq_true, decide_eq_true_iff, List.all_eq_true] at hll
      exact ⟨hll.1, fun x hx => of_decide_eq_true (hll.2 x hx)⟩
    have HC : Hid (∀ wr k x, Below w.heap.size w wr → l[k]? = some x → At26 a k x wr) := fun wr k x hb hk => h.at5 hb hk
    have HG : Hid (∀ k, k < l.length → ∃ x, l[k]? = some x) := fun k hk => ⟨_, List.getElem?_eq_getElem hk⟩
    have HB : Hid (∀ b m k wr, SSetsAt w b m k wr → Below w.heap.size w wr) := fun b m k wr ⟨_, _, _, h⟩ => h.1
    have HLTX : Hid (∀ (k : Nat) x, l[k]? = some x → x.who < 9223372036854775808 ∧ x.set < 9223372036854775808 ∧ x.g < 9223372036854775808) := fun k x hx => ⟨(h.lt x (List.mem_of_getElem? hx)).1, (h.lt x (List.mem_of_getElem? hx)).2.1, (h.lt x (List.mem_of_getElem? hx)).2.2.1⟩
    have HR : Hid (∀ b m (k : Nat) wr x, SSetsAt w b m k wr → k < 1000 → l[k]? = some x → Calls Tryz.prog 8 #[.pointer (some ⟨b, 0, none⟩), .pointer (some ⟨m, 0, none⟩), .agg #[.int .i64 x.k, .int .i64 x.who, .int .i64 x.set, .int .i64 x.g, .slice x.ad x.l.length x.c]] (wr.alloc (.cells #[.int .i64 x.k, .int .i64 x.who, .int .i64 x.set, .int .i64 x.g, .slice x.ad x.l.length x.c] 34)) fun e w1 => e = .returned (.bool true) ∧ ActB wr.heap.size x w1 ∧
        Calls Tryz.prog 9 #[.pointer (some ⟨b, 0, none⟩), .int .i64 x.who, .int .i64 x.set] w1 fun e w2 => ∃ ad c s, e = .returned (.slice ad (strL s x.who x.set).length c) ∧ s.Fit (64 * (k + 1)) ∧ SInv s ∧ SetsIn w b m wr.heap.size x s ad w2) := fun b m k wr x hS hk hx => sset_round hS hk x (h30 x (List.mem_of_getElem? hx)) (h.ints x (List.mem_of_getElem? hx)) (h.lt x (List.mem_of_getElem? hx))
    have HN : Hid (∀ w1, Below w.heap.size w w1 → Calls Tryz.prog 7 #[] w1 fun e w2 => ∃ b, e = .returned (.pointer (some ⟨b, 0, none⟩)) ∧ ∀ m, m = w2.heap.size → SSetsAt w b m 0 (w2.alloc (.cells #[.slice none 0 0, .slice none 0 0] 31))) := fun w1 hb1 => by
      refine (new_any w1).mono fun e w2 ⟨b, L, he, h1, h2, h3⟩ => ⟨b, he, fun m hm => ?_⟩
      subst hm
      have hT := two_start (w := w1) h1 h2 h3
      refine ⟨emptySt, St.Fit.empty.mono (by omega), SInv.empty, ?_⟩
      obtain ⟨g0, L', M', g1, g2, g3, g4, g5⟩ := hT
      exact Two.x ⟨bl_then hb1 g0, L', M', g1, g2, fun k hk => Nat.le_trans hb1.size (g3 k hk), fun k hk => Nat.le_trans hb1.size (g4 k hk), g5⟩
    clear h hll h30
    generalize l.length = n at *
    go_enter Tryz.func3, Tryz.ntmps3
    go_wp2_with fail
    refine HLT.out.mono ?_
    rintro e w1 ⟨rfl, hb1⟩
    go_wp2_with fail
    refine Calls.mono (HN.out w1 hb1) ?_
    rintro e w2 ⟨b, rfl, hS0⟩
    have H0 := Lib.hid (hS0 _ rfl)
    clear hS0 hb1
    generalize hmm : w2.heap.size = m at H0
    go_wp2_with fail
    go_loopw [25] (fun i wr => ∃ k : Nat, i = .int .i64 k ∧ k ≤ n ∧ SSetsAt w b m k wr) (fun i _ => n - (intOf i).toNat)
    case atStart => exact ⟨0, rfl, by omega, H0.out⟩
    case round =>
      obtain ⟨k, rfl, hk, hA⟩ := hrel
      have HA := Lib.hid hA
      clear hA H0
      by_cases hlt : k < n
      · obtain ⟨x, hx⟩ := HG.out k hlt
        obtain ⟨ad, rfl, q0, q1, q2, q3, q4⟩ := HC.out wr k _ (HB.out _ _ _ _ HA.out) hx
        have HRO := Lib.hid (HR.out b m k wr x HA.out (by omega) hx)
        obtain ⟨hxw, hxs, hxg⟩ := HLTX.out k x hx
        have hn0 := World.new_ne wr
        clear hx
        go_wp2_with fail
        refine Calls.mono HRO.out ?_
        rintro e w3 ⟨rfl, ⟨d0, d1, d2, d3, d4⟩, hD⟩
        have HD := Lib.hid hD
        clear hD HRO hn0 q0 q1 q2 q3 q4
        go_wp2_with fail
        refine Calls.mono HD.out ?_
        rintro e w4 ⟨ad2, c2, s, rfl, hfit, hinv, hin⟩
        have HF := Lib.hid hfit
        have HI := Lib.hid hinv
        have HIN := Lib.hid hin
        clear hfit hinv hin HD d0 d1 d2 d3 d4
        have HLE : Hid ((strL s x.who x.set).length ≤ 8) := HI.out.len8 hxw hxs
        have HFE : Hid (64 * (k + 1) < 1000000) := by show _ < _; omega
        have HTH : Hid (∀ wv, SetsIn w b m wr.heap.size x s ad2 wv → Calls Tryz.prog 10 #[.pointer (some ⟨b, 0, none⟩), .int .i64 x.who, .int .i64 x.set] wv fun e w' => e = .returned (.bool (sThere s x.who x.set)) ∧ SetsIn w b m wr.heap.size x s ad2 w') := fun wv hin => by
          obtain ⟨L, hS⟩ := hin.1.two.srep
          exact (sthere_any wv b s L _ x.who x.set hxw hS HF.out (by have := HFE.out; omega)).mono fun e w' ⟨he, hb⟩ => ⟨he, hin.below hb⟩
        have HIO : Hid (∀ wv g, SetsIn w b m wr.heap.size x s ad2 wv → g ∈ strL s x.who x.set → Calls Tryz.prog 11 #[.pointer (some ⟨b, 0, none⟩), .int .i64 g] wv fun e w' => ∃ (t : Int) (on : Bool), e = .returned (.tuple #[.int .i64 t, .bool on, .bool true]) ∧ SetsIn w b m wr.heap.size x s ad2 w') := fun wv g hin hg => by
          obtain ⟨L, hS⟩ := hin.1.two.srep
          obtain ⟨hgl, hkn, _⟩ := HI.out.has hxw hxs hg
          have hC := vinfo_all wv b s L _ g hgl hS HF.out
          rw [hkn] at hC
          exact hC.mono fun e w' ⟨t, on, he, hb⟩ => ⟨t, on, he, hin.below hb⟩
        have HHO : Hid (∀ wv g, SetsIn w b m wr.heap.size x s ad2 wv → g ∈ strL s x.who x.set → Calls Tryz.prog 12 #[.pointer (some ⟨b, 0, none⟩), .int .i64 x.who, .int .i64 x.set, .int .i64 g] wv fun e w' => e = .returned (.bool true) ∧ SetsIn w b m wr.heap.size x s ad2 w') := fun wv g hin hg => by
          obtain ⟨L, hS⟩ := hin.1.two.srep
          obtain ⟨hgl, _, hhas⟩ := HI.out.has hxw hxs hg
          have hC := shas_any wv b s L _ x.who x.set g hxw hxs hgl hS HF.out (by have := HFE.out; omega)
          rw [hhas] at hC
          exact hC.mono fun e w' ⟨he, hb⟩ => ⟨he, hin.below hb⟩
        have HHF : Hid (∀ wv, SetsIn w b m wr.heap.size x s ad2 wv → sThere s x.who x.set = true → Calls Tryz.prog 12 #[.pointer (some ⟨b, 0, none⟩), .int .i64 x.who, .int .i64 x.set, .int .i64 x.g] wv fun e w' => e = .returned (.bool (decide (x.g ∈ strL s x.who x.set))) ∧ SetsIn w b m wr.heap.size x s ad2 w') := fun wv hin ht => by
          obtain ⟨L, hS⟩ := hin.1.two.srep
          have hC := shas_any wv b s L _ x.who x.set x.g hxw hxs hxg hS HF.out (by have := HFE.out; omega)
          rw [HI.out.found hxw hxs hxg ht] at hC
          exact hC.mono fun e w' ⟨he, hb⟩ => ⟨he, hin.below hb⟩
        have HCELL : Hid (∀ wv, SetsIn w b m wr.heap.size x s ad2 wv → ActB wr.heap.size x wv) := fun wv hin => hin.box
        have HSL : Hid (∀ wv (j : Nat) g, SetsIn w b m wr.heap.size x s ad2 wv → (strL s x.who x.set)[j]? = some g → ∃ q, ad2 = some ⟨q, 0, none⟩ ∧ wv.cell? ⟨q, j, none⟩ = some (.int .i64 g)) := fun wv j g hin hj => hin.2.at0 j g hj
        have HRI : Hid (∀ (j : Nat) y z, (strL s x.who x.set)[j]? = some y → (strL s x.who x.set)[j + 1]? = some z → y < z) := fun j y z hy hz => rise_at (HI.out.rise hxw hxs) hy hz
        have HT0 : Hid (0 < (strL s x.who x.set).length → sThere s x.who x.set = true) := strL_there
        have HNEXT : Hid (∀ wv, SetsIn w b m wr.heap.size x s ad2 wv → SSetsAt w b m (k + 1) wv) := fun wv hin => ⟨s, HF.out, HI.out, hin.1.drop⟩
        have HGX : Hid (∀ j, j < (strL s x.who x.set).length → ∃ g, (strL s x.who x.set)[j]? = some g) := fun j hj => ⟨_, List.getElem?_eq_getElem hj⟩
        have HMX : Hid (∀ (j : Nat) g, (strL s x.who x.set)[j]? = some g → g ∈ strL s x.who x.set) := fun j g hj => List.mem_of_getElem? hj
        clear HF HI HFE hxw hxs hxg
        generalize hP : SetsIn w b m wr.heap.size x s ad2 = PIN at *
        clear hP
        generalize wr.heap.size = bx at *
        generalize strL s x.who x.set = xl at *
        generalize sThere s x.who x.set = there at *
        unfold ActB at HCELL
        generalize x.k = xk at *
        generalize x.who = xw at *
        generalize x.set = xs at *
        generalize x.g = xg at *
        generalize x.ad = xad at *
        generalize x.l.length = xn at *
        generalize x.c = xc at *
        generalize hr : xl.length = r at *
        have HRL := Lib.hid hr
        clear hr HA
        have hr8' : decide ((8 : Int) < (r : Int)) = false := decide_eq_false (by have := HLE.out; omega)
        have hr8 : r ≤ 8 := HLE.out
        obtain ⟨c0, c1, c2', c3, c4⟩ := HCELL.out w4 HIN.out
        by_cases hr0 : 0 < r
        · have hd0 : decide ((0 : Int) < (r : Int)) = true := decide_eq_true (by omega)
          have hd1 : decide (0 < r) = true := decide_eq_true hr0
          have hth := HT0.out hr0
          have HTH1 := Lib.hid (HTH.out w4 HIN.out)
          rw [hth] at HTH1
          go_wp2_with fail
          refine Calls.mono HTH1.out ?_
          rintro e w5 ⟨rfl, hin5⟩
          have HINC := Lib.hid hin5
          clear hin5 HIN HTH1
          go_wp2_with fail
          go_loopw [58] (fun i wv => ∃ j : Nat, i = .int .i64 j ∧ j ≤ r ∧ PIN wv) (fun i _ => r - (intOf i).toNat)
          case atStart => exact ⟨0, rfl, by omega, HINC.out⟩
          case round =>
            obtain ⟨j, rfl, hj, hin⟩ := hrel
            have HINJ := Lib.hid hin
            clear hin HINC
            by_cases hjr : j < r
            · obtain ⟨g, hg⟩ := HGX.out j hjr
              obtain ⟨q, rfl, hc⟩ := HSL.out _ j g HINJ.out hg
              have hgm := HMX.out j g hg
              have HIO1 := Lib.hid (HIO.out _ g HINJ.out hgm)
              have HX := Lib.hid hg
              clear hg
              go_wp2_with fail
              refine Calls.mono HIO1.out ?_
              rintro e w6 ⟨t, on, rfl, hin6⟩
              have HIN6 := Lib.hid hin6
              obtain ⟨c0, c1, c2', c3, c4⟩ := HCELL.out w6 HIN6.out
              have HHO1 := Lib.hid (HHO.out w6 g HIN6.out hgm)
              clear hin6 HIO1
              by_cases hj0 : j = 0
              · subst hj0
                go_wp2_with fail
                refine Calls.mono HHO1.out ?_
                rintro e w7 ⟨rfl, hin7⟩
                have HIN7 := Lib.hid hin7
                clear hin7
                go_wp2_with fail
                go_roundw
                case rel => exact ⟨1, by go_num, by omega, HIN7.out⟩
                case measure => simp [intOf]; omega
              · obtain ⟨i, hi⟩ : ∃ i, j = i + 1 := ⟨j - 1, by omega⟩
                have HI1 := Lib.hid hi
                obtain ⟨y, hy⟩ := HGX.out i (by omega)
                have hyg : y < g := HRI.out i y g hy (by rw [← hi]; exact HX.out)
                have HYG := Lib.hid hyg
                have hd2 : decide (g ≤ y) = false := decide_eq_false (by omega)
                have HY := Lib.hid hy
                have dj0 : decide ((0 : Int) < (j : Int)) = true := decide_eq_true (by omega)
                have dj1 : decide (0 < j) = true := decide_eq_true (by omega)
                have hir : i < r := by omega
                have di2 : decide ((i : Int) < (r : Int)) = true := decide_eq_true (by omega)
                have di3 : decide (i < r) = true := decide_eq_true hir
                have hw : IntKind.i64.wrap ((j : Int) - 1) = (i : Int) := by
                  have := HLE.out
                  rw [show ((j : Int) - 1) = (i : Int) by omega]; exact IntWalk.i64_in _ (by omega)
                clear hy hi hyg
                go_wp2_with fail
                refine Calls.mono HHO1.out ?_
                rintro e w7 ⟨rfl, hin7⟩
                have HIN7 := Lib.hid hin7
                obtain ⟨q', e', hcy⟩ := HSL.out w7 i y hin7 HY.out
                cases e'
                clear hin7
                go_wp2_with fail
                go_roundw
                case rel => exact ⟨j + 1, by go_num, by omega, HIN7.out⟩
                case measure => simp [intOf]; omega
            · obtain rfl : j = r := by omega
              go_wp2_with fail
              go_loopw [13, 98] (fun f i wv => ∃ i2 : Nat, i = .int .i64 i2 ∧ i2 ≤ j ∧ f = .bool (decide (xg ∈ xl.take i2)) ∧ PIN wv) (fun _ i _ => j - (intOf i).toNat)
              case atStart => exact ⟨0, rfl, by omega, by simp, HINJ.out⟩
              case round =>
                obtain ⟨i2, rfl, hi2, rfl, hin⟩ := hrel
                have HIN2 := Lib.hid hin
                clear hin HINJ
                by_cases hir : i2 < j
                · obtain ⟨g, hg⟩ := HGX.out i2 hir
                  obtain ⟨q, rfl, hc⟩ := HSL.out _ i2 g HIN2.out hg
                  obtain ⟨c0, c1, c2', c3, c4⟩ := HCELL.out _ HIN2.out
                  have HFS := Lib.hid (found_step (g := xg) hg)
                  clear hg
                  cases hfd : decide (xg ∈ xl.take i2) with
                  | true =>
                    rw [hfd, Bool.true_or] at HFS
                    go_wp2_with fail
                    go_roundw
                    case rel => exact ⟨i2 + 1, by go_num, by omega, by rw [← HFS.out], HIN2.out⟩
                    case measure => simp [intOf]; omega
                  | false =>
                    rw [hfd, Bool.false_or] at HFS
                    go_wp2_with fail
                    go_roundw
                    case rel => exact ⟨i2 + 1, by go_num, by omega, by rw [← HFS.out], HIN2.out⟩
                    case measure => simp [intOf]; omega
                · obtain rfl : i2 = j := by omega
                  obtain ⟨c0, c1, c2', c3, c4⟩ := HCELL.out _ HIN2.out
                  have htk : xl.take i2 = xl := by rw [← HRL.out, List.take_length]
                  rw [htk]
                  have HTH1 := Lib.hid (HTH.out _ HIN2.out)
                  generalize hfd : decide (xg ∈ xl) = fd at *
                  have hfne : (fd != fd) = false := by simp
                  clear hfd htk
                  cases there with
                  | false => cases hth
                  | true =>
                    go_wp2_with fail
                    refine Calls.mono HTH1.out ?_
                    rintro e w8 ⟨rfl, hin8⟩
                    obtain ⟨e0, e1, e2', e3, e4⟩ := HCELL.out w8 hin8
                    have HHF1 := Lib.hid (HHF.out w8 hin8 (by first | rfl | trivial))
                    clear hin8
                    go_wp2_with fail
                    refine Calls.mono HHF1.out ?_
                    rintro e w9 ⟨rfl, hin9⟩
                    have HN9 := Lib.hid (HNEXT.out w9 hin9)
                    clear hin9
                    go_wp2_with fail
                    go_roundw
                    case rel => exact ⟨k + 1, by go_num, by omega, HN9.out⟩
                    case measure => simp [intOf]; omega
        · have hd0 : decide ((0 : Int) < (r : Int)) = false := decide_eq_false (by omega)
          have hd1 : decide (0 < r) = false := decide_eq_false hr0
          have hd2 : decide (xg ∈ xl) = false := by
            have : xl = [] := List.length_eq_zero_iff.1 (by rw [HRL.out]; omega)
            rw [this]; simp
          obtain rfl : r = 0 := by omega
          have HTH1 := Lib.hid (HTH.out w4 HIN.out)
          go_wp2_with fail
          refine wp_loop_rounds 1 ?_
          rw [rounds_succ]
          go_wp2_with fail
          refine wp_loop_rounds 1 ?_
          rw [rounds_succ]
          cases there with
          | false =>
            go_wp2_with fail
            refine Calls.mono HTH1.out ?_
            rintro e w8 ⟨rfl, hin8⟩
            have HN8 := Lib.hid (HNEXT.out w8 hin8)
            clear hin8
            go_wp2_with fail
            go_roundw
            case rel => exact ⟨k + 1, by go_num, by omega, HN8.out⟩
            case measure => simp [intOf]; omega
          | true =>
            go_wp2_with fail
            refine Calls.mono HTH1.out ?_
            rintro e w8 ⟨rfl, hin8⟩
            obtain ⟨e0, e1, e2', e3, e4⟩ := HCELL.out w8 hin8
            have HHF1 := Lib.hid (HHF.out w8 hin8 (by first | rfl | trivial))
            rw [hd2] at HHF1
            clear hin8
            go_wp2_with fail
            refine Calls.mono HHF1.out ?_
            rintro e w9 ⟨rfl, hin9⟩
            have HN9 := Lib.hid (HNEXT.out w9 hin9)
            clear hin9
            go_wp2_with fail
            go_roundw
            case rel => exact ⟨k + 1, by go_num, by omega, HN9.out⟩
            case measure => simp [intOf]; omega
      · obtain rfl : k = n := by omega
        have HLE := Lib.hid (HL.out wr (HB.out _ _ _ _ HA.out))
        go_wp2_with fail
        refine Calls.mono HLE.out ?_
        rintro e w5 ⟨rfl, hb5⟩
        go_wp2_with fail
        go_ret
        exact ⟨rfl, hb5⟩
end Go.Proofs.YtnblhjndngpbnaaGreat
