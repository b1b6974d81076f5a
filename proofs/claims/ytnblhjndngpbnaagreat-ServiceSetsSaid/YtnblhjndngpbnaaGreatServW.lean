/- What is proved here: the walk of ServiceActs. Its condition: the acts' numbers are ints of 64 bits. -/
import Derived.Test.YtnblhjndngpbnaaGreatServV
import Derived.Test.YtnblhjndngpbnaaGreatEnd
namespace Go.Proofs.YtnblhjndngpbnaaGreat
open Go.RowKit

/-- Where the laws' loops stand: both stores in one state. -/
def SActsAt (w : World) (b m k : Nat) (wr : World) : Prop := ∃ s : St, s.Fit (64 * k) ∧ SGood s ∧ TwoX w b m s s [] wr

/-- The act's box. -/
abbrev ActB (bx : Nat) (x : A26) (w : World) : Prop := w.cell? ⟨bx, 0, none⟩ = some (.int .i64 x.k) ∧ w.cell? ⟨bx, 1, none⟩ = some (.int .i64 x.who) ∧ w.cell? ⟨bx, 2, none⟩ = some (.int .i64 x.set) ∧ w.cell? ⟨bx, 3, none⟩ = some (.int .i64 x.g) ∧ w.cell? ⟨bx, 4, none⟩ = some (.slice x.ad x.l.length x.c)

/-- A round's calls. -/
def SRound (w : World) (b m k bx : Nat) (x : A26) (w0 : World) : Prop :=
  Calls Tryz.prog 8 #[.pointer (some ⟨b, 0, none⟩), .pointer (some ⟨m, 0, none⟩), .agg #[.int .i64 x.k, .int .i64 x.who, .int .i64 x.set, .int .i64 x.g, .slice x.ad x.l.length x.c]] w0 fun e w1 => e = .returned (.bool true) ∧ ActB bx x w1 ∧
  Calls Tryz.prog 13 #[.pointer (some ⟨b, 0, none⟩), .int .i64 x.who] w1 fun e w2 => ∃ p1 : Bool, e = .returned (.bool p1) ∧ ActB bx x w2 ∧
  Calls Tryz.prog 14 #[.pointer (some ⟨m, 0, none⟩), .int .i64 x.who] w2 fun e w3 => e = .returned (.bool p1) ∧ ActB bx x w3 ∧
  Calls Tryz.prog 10 #[.pointer (some ⟨b, 0, none⟩), .int .i64 x.who, .int .i64 x.set] w3 fun e w4 => ∃ p2 : Bool, e = .returned (.bool p2) ∧ ActB bx x w4 ∧
  Calls Tryz.prog 15 #[.pointer (some ⟨m, 0, none⟩), .int .i64 x.who, .int .i64 x.set] w4 fun e w5 => e = .returned (.bool p2) ∧ ActB bx x w5 ∧
  Calls Tryz.prog 12 #[.pointer (some ⟨b, 0, none⟩), .int .i64 x.who, .int .i64 x.set, .int .i64 x.g] w5 fun e w6 => ∃ p3 : Bool, e = .returned (.bool p3) ∧ ActB bx x w6 ∧
  Calls Tryz.prog 16 #[.pointer (some ⟨m, 0, none⟩), .int .i64 x.who, .int .i64 x.set, .int .i64 x.g] w6 fun e w7 => e = .returned (.bool p3) ∧ ActB bx x w7 ∧
  Calls Tryz.prog 17 #[.pointer (some ⟨b, 0, none⟩), .int .i64 x.who] w7 fun e w8 => ∃ n4 : Int, e = .returned (.int .i64 n4) ∧ ActB bx x w8 ∧
  Calls Tryz.prog 18 #[.pointer (some ⟨m, 0, none⟩), .int .i64 x.who] w8 fun e w9 => e = .returned (.int .i64 n4) ∧ ActB bx x w9 ∧
  Calls Tryz.prog 9 #[.pointer (some ⟨b, 0, none⟩), .int .i64 x.who, .int .i64 x.set] w9 fun e w10 => ∃ a6 r c6, e = .returned (.slice a6 r c6) ∧ ActB bx x w10 ∧
  Calls Tryz.prog 20 #[.pointer (some ⟨m, 0, none⟩), .int .i64 x.who, .int .i64 x.set] w10 fun e w11 => ∃ a7 c7, e = .returned (.slice a7 r c7) ∧ ActB bx x w11 ∧
  Calls Tryz.prog 19 #[.slice a6 r c6, .slice a7 r c7] w11 fun e w12 => e = .returned (.bool true) ∧ ActB bx x w12 ∧
  Calls Tryz.prog 21 #[.slice x.ad x.l.length x.c] w12 fun e w13 => ∃ p8 : Bool, e = .returned (.bool p8) ∧ ActB bx x w13 ∧
  Calls Tryz.prog 22 #[.slice x.ad x.l.length x.c] w13 fun e w14 => e = .returned (.bool p8) ∧ ActB bx x w14 ∧ SActsAt w b m (k + 1) w14

theorem sround {w wr : World} {b m k : Nat} (h : SActsAt w b m k wr) (hk : k < 1000) (x : A26) (hl : x.l.length ≤ 30) (hv : IntsAt w (.slice x.ad x.l.length x.c) x.l) (hlt : x.who < 9223372036854775808 ∧ x.set < 9223372036854775808 ∧ x.g < 9223372036854775808 ∧ ∀ n ∈ x.l, n < 9223372036854775808) :
    SRound w b m k wr.heap.size x (wr.alloc (.cells #[.int .i64 x.k, .int .i64 x.who, .int .i64 x.set, .int .i64 x.g, .slice x.ad x.l.length x.c] 34)).drew := by
  obtain ⟨s, hf, hg, hT⟩ := h
  have hB := (hT.box (.cells #[.int .i64 x.k, .int .i64 x.who, .int .i64 x.set, .int .i64 x.g, .slice x.ad x.l.length x.c] 34)).below (w2 := (wr.alloc (.cells #[.int .i64 x.k, .int .i64 x.who, .int .i64 x.set, .int .i64 x.g, .slice x.ad x.l.length x.c] 34)).drew) ⟨rfl, rfl, rfl, Nat.le_refl _, fun _ _ => rfl⟩
  have f1 := sAct_fit hf x.k x.who x.set x.g hl
  have g1 := hg.act x.k x.who x.set x.g x.l
  obtain ⟨hw, hs, hgx, hr⟩ := hlt
  have hz1 : (sAct s x.k x.who x.set x.g x.l).size < 1000000000000 := Nat.lt_of_le_of_lt f1.size (by omega)
  have hl1 : (sAct s x.k x.who x.set x.g x.l).ents.length < 1000000000000 := by unfold St.size at hz1; omega
  have c5 : ∀ {w' : World} {s' : St}, TwoX w b m s' s' ((wr.heap.size, .cells #[.int .i64 x.k, .int .i64 x.who, .int .i64 x.set, .int .i64 x.g, .slice x.ad x.l.length x.c] 34) :: []) w' → ActB wr.heap.size x w' := fun h => ⟨h.top 0 rfl, h.top 1 rfl, h.top 2 rfl, h.top 3 rfl, h.top 4 rfl⟩
  refine (act26_any hB hf (by omega) hg x.k x.who x.set x.g hw hs hgx hv hl hr).mono fun e w1 ⟨he, h1⟩ => ⟨he, c5 h1, ?_⟩
  generalize hs1 : sAct s x.k x.who x.set x.g x.l = s1 at *
  obtain ⟨L, hS⟩ := h1.two.srep
  refine (h1.still (sis_any w1 b s1 L _ x.who hw hS f1 (by omega))).mono fun e w2 ⟨he, h2⟩ => ⟨_, he, c5 h2, ?_⟩
  obtain ⟨M, hR⟩ := h2.two.rrep
  refine (h2.still (rsis_any w2 m s1 M _ x.who hw hR f1 (by omega))).mono fun e w3 ⟨he, h3⟩ => ⟨he, c5 h3, ?_⟩
  obtain ⟨L, hS⟩ := h3.two.srep
  refine (h3.still (sthere_any w3 b s1 L _ x.who x.set hw hS f1 (by omega))).mono fun e w4 ⟨he, h4⟩ => ⟨_, he, c5 h4, ?_⟩
  obtain ⟨M, hR⟩ := h4.two.rrep
  refine (h4.still (rsthere_any w4 m s1 M _ x.who x.set hw hR f1 (by omega))).mono fun e w5 ⟨he, h5⟩ => ⟨he, c5 h5, ?_⟩
  obtain ⟨L, hS⟩ := h5.two.srep
  refine (h5.still (shas_any w5 b s1 L _ x.who x.set x.g hw hs hgx hS f1 (by omega))).mono fun e w6 ⟨he, h6⟩ => ⟨_, he, c5 h6, ?_⟩
  obtain ⟨M, hR⟩ := h6.two.rrep
  refine (h6.still (rshas_any w6 m s1 M _ x.who x.set x.g hw hs hgx hR f1 (by omega))).mono fun e w7 ⟨he, h7⟩ => ⟨he, c5 h7, ?_⟩
  obtain ⟨L, hS⟩ := h7.two.srep
  refine (h7.still (ssets_any w7 b s1 L _ x.who hw hS f1 (by omega))).mono fun e w8 ⟨he, h8⟩ => ⟨_, he, c5 h8, ?_⟩
  obtain ⟨M, hR⟩ := h8.two.rrep
  refine (h8.still (rssets_any w8 m s1 M _ x.who hw hR f1 (by omega))).mono fun e w9 ⟨he, h9⟩ => ⟨he, c5 h9, ?_⟩
  obtain ⟨L, hS⟩ := h9.two.srep
  refine (sstrs_any w9 b s1 L _ x.who x.set hw hs hS f1 (by omega) g1.2.short g1.2.noE).mono fun e w10 ⟨v6, he, hr6, hb6⟩ => ?_
  obtain ⟨a6, c6, rfl, hn6⟩ := (row_own hr6).nums
  have h10 := h9.below hb6
  refine ⟨a6, _, c6, he, c5 h10, ?_⟩
  obtain ⟨M, hR⟩ := h10.two.rrep
  refine (rstrs_any w10 m s1 M _ x.who x.set hw hs hR f1 (by omega) g1.2.short).mono fun e w11 ⟨v7, he, ho7, hb7⟩ => ?_
  obtain ⟨a7, c7, rfl, hn7⟩ := ho7.nums
  have h11 := h10.below hb7
  refine ⟨a7, c7, he, c5 h11, ?_⟩
  have hln : (strL s1 x.who x.set).length < 1000000000000 := by
    unfold strL
    split
    · exact Nat.lt_of_le_of_lt (strU_len _ _ _) hl1
    · decide
  refine (ints_same w11 a6 a7 c6 c7 _ (hn6.below hb7) hn7 hln).mono fun e w12 ⟨he, hb8⟩ => ⟨he, c5 (h11.below hb8), ?_⟩
  have h12 := h11.below hb8
  refine (h12.still (rise_any w12 _ x.l (hv.below h12.1) (by omega))).mono fun e w13 ⟨he, h13⟩ => ⟨_, he, c5 h13, ?_⟩
  exact (h13.still (rrise_any w13 _ x.l (hv.below h13.1) (by omega))).mono fun e w14 ⟨he, h14⟩ => ⟨he, c5 h14, s1, f1.mono (by omega), g1, h14.drop⟩

set_option maxRecDepth 100000 in
set_option maxHeartbeats 16000000 in
theorem sacts_walk (w : World) (a : Option Addr) (c : Nat) (l : List A26) (h : Acts26In w a l) : Calls Tryz.prog 4 #[.slice a l.length c] w fun e w' => e = .returned (.bool true) ∧ Below w.heap.size w w' := by
  have HLT := Lib.hid (light_any w a c l h)
  cases hll : lightL l with
  | false =>
    rw [hll] at HLT
    have HL : Hid (∀ w1, Below w.heap.size w w1 → Calls Tryz.prog 6 #[] w1 fun e w' => e = .returned (.bool true) ∧ Below w.heap.size w w') := fun w1 hb => (lives26 w1).mono fun e w' ⟨he, hb2⟩ => ⟨he, bl_then hb hb2⟩
    clear h hll
    generalize l.length = n at *
    go_enter Tryz.func4, Tryz.ntmps4
    go_wp2_with fail
    refine HLT.out.mono ?_
    rintro e w1 ⟨rfl, hb1⟩
    go_wp2_with fail
    refine Calls.mono (HL.out w1 hb1) ?_
    rintro e w2 ⟨rfl, hb2⟩
    go_wp2_with fail
    go_ret
    exact ⟨rfl, hb2⟩
  | true =>
    rw [hll] at HLT
    obtain ⟨hl100, h30⟩ : l.length ≤ 100 ∧ ∀ x ∈ l, x.l.length ≤ 30 := by
      unfold lightL at hll
      rw [Bool.and_eq_true, decide_eq_true_iff, List.all_eq_true] at hll
      exact ⟨hll.1, fun x hx => of_decide_eq_true (hll.2 x hx)⟩
    have HC : Hid (∀ wr k x, Below w.heap.size w wr → l[k]? = some x → At26 a k x wr) := fun wr k x hb hk => h.at5 hb hk
    have HG : Hid (∀ k, k < l.length → ∃ x, l[k]? = some x) := fun k hk => ⟨_, List.getElem?_eq_getElem hk⟩
    have HB : Hid (∀ b m k wr, SActsAt w b m k wr → Below w.heap.size w wr) := fun b m k wr ⟨_, _, _, h⟩ => h.1
    have HR : Hid (∀ b m (k : Nat) wr x, SActsAt w b m k wr → k < 1000 → l[k]? = some x → SRound w b m k wr.heap.size x (wr.alloc (.cells #[.int .i64 x.k, .int .i64 x.who, .int .i64 x.set, .int .i64 x.g, .slice x.ad x.l.length x.c] 34)).drew) := fun b m k wr x hS hk hx => sround hS hk x (h30 x (List.mem_of_getElem? hx)) (h.ints x (List.mem_of_getElem? hx)) (h.lt x (List.mem_of_getElem? hx))
    have HD : Hid (∀ b m k wr, SActsAt w b m k wr → k < 1000 → ∃ a2 n c2, ListAt m a2 n c2 wr ∧ EndDone 6 w b m a2 n c2 wr.drew) := fun b m k wr ⟨_, hf, _, h⟩ hk => end_done lives26 h (Nat.lt_of_le_of_lt hf.size (by omega))
    have HN : Hid (∀ w1, Below w.heap.size w w1 → Calls Tryz.prog 7 #[] w1 fun e w2 => ∃ b, e = .returned (.pointer (some ⟨b, 0, none⟩)) ∧ ∀ m, m = w2.heap.size → SActsAt w b m 0 (w2.alloc (.cells #[.slice none 0 0, .slice none 0 0] 31))) := fun w1 hb1 => by
      refine (new_any w1).mono fun e w2 ⟨b, L, he, h1, h2, h3⟩ => ⟨b, he, fun m hm => ?_⟩
      subst hm
      have hT := two_start (w := w1) h1 h2 h3
      refine ⟨emptySt, St.Fit.empty.mono (by omega), SGood.empty, ?_⟩
      obtain ⟨g0, L', M', g1, g2, g3, g4, g5⟩ := hT
      exact Two.x ⟨bl_then hb1 g0, L', M', g1, g2, fun k hk => Nat.le_trans hb1.size (g3 k hk), fun k hk => Nat.le_trans hb1.size (g4 k hk), g5⟩
    clear h hll h30
    generalize l.length = n at *
    go_enter Tryz.func4, Tryz.ntmps4
    go_wp2_with fail
    refine HLT.out.mono ?_
    rintro e w1 ⟨rfl, hb1⟩
    go_wp2_with fail
    refine Calls.mono (HN.out w1 hb1) ?_
    rintro e w2 ⟨b, rfl, hS0⟩
    have H0 := Lib.hid (hS0 _ rfl)
    clear hS0 hb1
    generalize hmm : w2.heap.size = m at H0
    go_wp2_with fail
    go_loopw [16] (fun i wr => ∃ k : Nat, i = .int .i64 k ∧ k ≤ n ∧ SActsAt w b m k wr) (fun i _ => n - (intOf i).toNat)
    case atStart => exact ⟨0, rfl, by omega, H0.out⟩
    case round =>
      obtain ⟨k, rfl, hk, hA⟩ := hrel
      have HA := Lib.hid hA
      clear hA H0
      by_cases hlt : k < n
      · obtain ⟨x, hx⟩ := HG.out k hlt
        obtain ⟨ad, rfl, q0, q1, q2, q3, q4⟩ := HC.out wr k _ (HB.out _ _ _ _ HA.out) hx
        have HRO := Lib.hid (HR.out b m k wr x HA.out (by omega) hx)
        have hn0 := World.new_ne wr
        unfold SRound ActB at HRO
        clear hx
        generalize x.k = xk at *
        generalize x.who = xw at *
        generalize x.set = xs at *
        generalize x.g = xg at *
        generalize x.ad = xad at *
        generalize x.l.length = xn at *
        generalize x.c = xc at *
        go_upto_region 7 with fail
        simp only [List.append]
        have hc0 : (wr.alloc (.cells #[.int .i64 xk, .int .i64 xw, .int .i64 xs, .int .i64 xg, .slice xad xn xc] 34)).cell? ⟨wr.heap.size, 0, none⟩ = some (.int .i64 xk) := by rw [cell_of_row _ _ _ _ _ _ (heap_alloc_new wr _)]; rfl
        have hc1 : (wr.alloc (.cells #[.int .i64 xk, .int .i64 xw, .int .i64 xs, .int .i64 xg, .slice xad xn xc] 34)).cell? ⟨wr.heap.size, 1, none⟩ = some (.int .i64 xw) := by rw [cell_of_row _ _ _ _ _ _ (heap_alloc_new wr _)]; rfl
        have hc2 : (wr.alloc (.cells #[.int .i64 xk, .int .i64 xw, .int .i64 xs, .int .i64 xg, .slice xad xn xc] 34)).cell? ⟨wr.heap.size, 2, none⟩ = some (.int .i64 xs) := by rw [cell_of_row _ _ _ _ _ _ (heap_alloc_new wr _)]; rfl
        have hc3 : (wr.alloc (.cells #[.int .i64 xk, .int .i64 xw, .int .i64 xs, .int .i64 xg, .slice xad xn xc] 34)).cell? ⟨wr.heap.size, 3, none⟩ = some (.int .i64 xg) := by rw [cell_of_row _ _ _ _ _ _ (heap_alloc_new wr _)]; rfl
        have hc4 : (wr.alloc (.cells #[.int .i64 xk, .int .i64 xw, .int .i64 xs, .int .i64 xg, .slice xad xn xc] 34)).cell? ⟨wr.heap.size, 4, none⟩ = some (.slice xad xn xc) := by rw [cell_of_row _ _ _ _ _ _ (heap_alloc_new wr _)]; rfl
        clear hn0 q0 q1 q2 q3 q4 HA
        generalize wr.alloc (.cells #[.int .i64 xk, .int .i64 xw, .int .i64 xs, .int .i64 xg, .slice xad xn xc] 34) = w0 at *
        generalize wr.heap.size = bx at *
        go_region_held3 (fun w' => w'.cell? ⟨bx, 0, none⟩ = some (.int .i64 xk) ∧ w'.cell? ⟨bx, 1, none⟩ = some (.int .i64 xw) ∧ w'.cell? ⟨bx, 2, none⟩ = some (.int .i64 xs) ∧ w'.cell? ⟨bx, 3, none⟩ = some (.int .i64 xg) ∧ w'.cell? ⟨bx, 4, none⟩ = some (.slice xad xn xc)) (go_keep)
          (first
            | (go_at_call 8; refine Calls.mono HRO.out ?_; rintro e v1 ⟨rfl, ⟨x10, x11, x12, x13, x14⟩, hS⟩; have HS1 := Lib.hid hS; clear hS)
            | (go_at_call 13; refine Calls.mono HS1.out ?_; rintro e v2 ⟨p1, rfl, ⟨x20, x21, x22, x23, x24⟩, hS⟩; have HS2 := Lib.hid hS; clear hS; have hq1 : (p1 != p1) = false := by simp)
            | (go_at_call 14; refine Calls.mono HS2.out ?_; rintro e v3 ⟨rfl, ⟨x30, x31, x32, x33, x34⟩, hS⟩; have HS3 := Lib.hid hS; clear hS)
            | (go_at_call 10; refine Calls.mono HS3.out ?_; rintro e v4 ⟨p2, rfl, ⟨x40, x41, x42, x43, x44⟩, hS⟩; have HS4 := Lib.hid hS; clear hS; have hq3 : (p2 != p2) = false := by simp)
            | (go_at_call 15; refine Calls.mono HS4.out ?_; rintro e v5 ⟨rfl, ⟨x50, x51, x52, x53, x54⟩, hS⟩; have HS5 := Lib.hid hS; clear hS)
            | (go_at_call 12; refine Calls.mono HS5.out ?_; rintro e v6 ⟨p3, rfl, ⟨x60, x61, x62, x63, x64⟩, hS⟩; have HS6 := Lib.hid hS; clear hS; have hq5 : (p3 != p3) = false := by simp)
            | (go_at_call 16; refine Calls.mono HS6.out ?_; rintro e v7 ⟨rfl, ⟨x70, x71, x72, x73, x74⟩, hS⟩; have HS7 := Lib.hid hS; clear hS)
            | (go_at_call 17; refine Calls.mono HS7.out ?_; rintro e v8 ⟨n4, rfl, ⟨x80, x81, x82, x83, x84⟩, hS⟩; have HS8 := Lib.hid hS; clear hS; have hq7 : (n4 != n4) = false := by simp)
            | (go_at_call 18; refine Calls.mono HS8.out ?_; rintro e v9 ⟨rfl, ⟨x90, x91, x92, x93, x94⟩, hS⟩; have HS9 := Lib.hid hS; clear hS)
            | (go_at_call 9; refine Calls.mono HS9.out ?_; rintro e v10 ⟨a6, r, c6, rfl, ⟨y00, y01, y02, y03, y04⟩, hS⟩; have HS10 := Lib.hid hS; clear hS)
            | (go_at_call 20; refine Calls.mono HS10.out ?_; rintro e v11 ⟨a7, c7, rfl, ⟨y10, y11, y12, y13, y14⟩, hS⟩; have HS11 := Lib.hid hS; clear hS)
            | (go_at_call 19; refine Calls.mono HS11.out ?_; rintro e v12 ⟨rfl, ⟨y20, y21, y22, y23, y24⟩, hS⟩; have HS12 := Lib.hid hS; clear hS)
            | (go_at_call 21; refine Calls.mono HS12.out ?_; rintro e v13 ⟨p8, rfl, ⟨y30, y31, y32, y33, y34⟩, hS⟩; have HS13 := Lib.hid hS; clear hS; have hq8 : (p8 != p8) = false := by simp)
            | (go_at_call 22; refine Calls.mono HS13.out ?_; rintro e v14 ⟨rfl, ⟨y40, y41, y42, y43, y44⟩, hA14⟩; have HA14 := Lib.hid hA14; clear hA14))
        go_wp2_with fail
        go_roundw
        case rel => exact ⟨k + 1, by go_num, by omega, HA14.out⟩
        case measure => simp [intOf]; omega
      · obtain rfl : k = n := by omega
        obtain ⟨a2, n2, c2, hm, hD⟩ := HD.out b m k wr HA.out (by omega)
        have HDO := Lib.hid hD
        clear hD
        unfold EndDone at HDO
        go_wp2_with fail
        go_region_held3 (fun w' => w'.cell? ⟨m, 0, none⟩ = some (.slice a2 n2 c2)) (go_keep)
          (first
            | (go_at_call 24; refine Calls.mono HDO.out ?_; rintro e v4 ⟨a4, c4, rfl, hm4, hS⟩; have HS4 := Lib.hid hS; clear hS)
            | (go_at_call 23; refine Calls.mono HS4.out ?_; rintro e v5 ⟨rfl, hm5, hS⟩; have HS5 := Lib.hid hS; clear hS)
            | (go_at_call 6; refine Calls.mono HS5.out ?_; rintro e v6 ⟨rfl, hm6, hB6⟩))
        go_wp2
        go_ret
        exact ⟨rfl, hB6⟩
end Go.Proofs.YtnblhjndngpbnaaGreat
