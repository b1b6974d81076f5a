/- What is proved here: the service laws' light and lives. Their conditions: none. -/
import Derived.Test.YtnblhjndngpbnaaGreatServJ
namespace Go.Proofs.YtnblhjndngpbnaaGreat
open Go.RowKit

/-- A store of the walk's own. -/
def One (w : World) (b : Nat) (s : St) (w1 : World) : Prop := Below w.heap.size w w1 ∧ ∃ L, SRep w1 b s L ∧ ∀ k ∈ L, w.heap.size ≤ k
theorem One.below {w w1 w2 : World} {b : Nat} {s : St} (h : One w b s w1) (hb : Below w1.heap.size w1 w2) : One w b s w2 := by
  obtain ⟨h0, L, h1, h2⟩ := h
  exact ⟨h0.trans (hb.mono h0.size), L, h1.below hb, h2⟩
theorem One.prog {w w1 : World} {b : Nat} {s s' : St} {F : FuncId} {args : Array Value} {v : Value} (h : One w b s w1) (hc : ∀ L, SRep w1 b s L → Calls Tryz.prog F args w1 (RetSt w1 b L v s')) :
    Calls Tryz.prog F args w1 fun e w' => e = .returned v ∧ One w b s' w' := by
  obtain ⟨h0, L, h1, h2⟩ := h
  refine (hc L h1).mono fun e w' ⟨he, L', h6, h7⟩ => ⟨he, below_of_step h0 h2 h7, L', h6, fun k hk => ?_⟩
  rcases h7.own k hk with h8 | h8
  · exact h2 k h8
  · exact Nat.le_trans h0.size h8
theorem One.new {w w1 : World} {b : Nat} {L : List Nat} (h1 : SRep w1 b emptySt L) (h2 : Fr (fun _ => False) w w1) (h3 : ∀ k ∈ L, w.heap.size ≤ k) : One w b emptySt w1 := ⟨h2.below, L, h1, h3⟩

/-- Two ints in a new row stand, whatever is done to other blocks. -/
theorem two_stand {W w' : World} {x y : Int} {L : List Nat} (hL : W.heap.size ∉ L) (hF : Fr (fun k => k ∈ L) (W.alloc (.cells #[.int .i64 x, .int .i64 y] 3)) w') : IntsAt w' (.slice (some ⟨W.heap.size, 0, none⟩) 2 2) [x, y] := by
  have hrow := (hF.block W.heap.size (by simp) hL).trans (heap_alloc_new W _)
  exact intsAt_cells (l := [x, y]) fun j z hj => by
    rw [cell_of_row _ _ _ _ _ _ hrow]
    match j, hj with
    | 0, hj => cases hj; rfl
    | 1, hj => cases hj; rfl

/-- lives' states. -/
def v26a : St := vNew emptySt
def v26b : St := vNew v26a
def v26c : St := vNew v26b
def v26d : St := v26c.setInt (keyL 21 [9]) 1
def v26e : St := (sNewL v26d 9 [1, 3]).2
def v26f : St := (sExc v26e 9 0 1).2
theorem g26a : vNewG emptySt = ((1, 0), v26a) := by kernel_rfl
theorem g26b : vNewG v26a = ((2, 0), v26b) := by kernel_rfl
theorem g26c : vNewG v26b = ((3, 0), v26c) := by kernel_rfl
theorem g26d : sReg v26c 9 = (0, v26d) := by kernel_rfl
theorem g26e : (sNewL v26d 9 [1, 3]).1 = (0, 0) := by kernel_rfl
theorem g26f : (sExc v26e 9 0 1).1 = 0 := by kernel_rfl
theorem g26g : strL v26f 9 0 = [3] := by kernel_rfl
theorem fv26a : v26a.Fit 4 := vNew_fit26 St.Fit.empty
theorem fv26b : v26b.Fit 8 := vNew_fit26 fv26a
theorem fv26c : v26c.Fit 12 := vNew_fit26 fv26b
theorem fv26d : v26d.Fit 14 := fv26c.setInt _ _
theorem fv26e : v26e.Fit 20 := (sNewL_fit fv26d 9 [1, 3]).mono (by decide)
theorem fv26f : v26f.Fit 22 := St.Fit.del fv26e (keyL 23 [9, 0, 1])
theorem good26f : SGood v26f := by
  have h1 : SGood v26c := SGood.empty.vNew.vNew.vNew
  have h2 : SGood v26d := h1.setInt (key_short 21 _ (by simp)) 1
  have h3 : SGood v26e := by
    have := h2.act 1 9 0 0 [1, 3]
    exact this
  exact h3.del (keyL 23 [9, 0, 1])

theorem one_int (W : World) (x : Int) : IntsLie (W.alloc (.cells #[.int .i64 x] 3)) (some ⟨W.heap.size, 0, none⟩) [x] := ⟨fun k y hk => ⟨_, rfl, by
  rw [cell_of_row _ _ _ _ _ _ (heap_alloc_new W _)]
  match k, hk with
  | 0, hk => cases hk; rfl⟩⟩

set_option maxRecDepth 100000 in
set_option maxHeartbeats 4000000 in
theorem lives26 (w : World) : Calls Tryz.prog 6 #[] w fun e w' => e = .returned (.bool true) ∧ Below w.heap.size w w' := by
  have HN : Hid (Calls Tryz.prog 7 #[] w fun e w1 => ∃ b, e = .returned (.pointer (some ⟨b, 0, none⟩)) ∧
      Calls Tryz.prog 25 #[.pointer (some ⟨b, 0, none⟩), .int .i64 1] w1 fun e w2 => (∃ v, e = .returned v) ∧
      Calls Tryz.prog 25 #[.pointer (some ⟨b, 0, none⟩), .int .i64 1] w2 fun e w3 => (∃ v, e = .returned v) ∧
      Calls Tryz.prog 25 #[.pointer (some ⟨b, 0, none⟩), .int .i64 1] w3 fun e w4 => (∃ v, e = .returned v) ∧
      Calls Tryz.prog 26 #[.pointer (some ⟨b, 0, none⟩), .int .i64 9] w4 fun e w5 => (∃ v, e = .returned v) ∧
      Calls Tryz.prog 27 #[.pointer (some ⟨b, 0, none⟩), .int .i64 9, .slice (some ⟨w5.heap.size, 0, none⟩) 2 2] (w5.alloc (.cells #[.int .i64 1, .int .i64 3] 3)) fun e w6 => e = .returned (.tuple #[.int .i64 0, .int .i64 0]) ∧
      Calls Tryz.prog 28 #[.pointer (some ⟨b, 0, none⟩), .int .i64 9, .int .i64 0, .int .i64 1] w6 fun e w7 => e = .returned (.int .i64 0) ∧
      Calls Tryz.prog 9 #[.pointer (some ⟨b, 0, none⟩), .int .i64 9, .int .i64 0] w7 fun e w8 => ∃ a c, e = .returned (.slice a 1 c) ∧
      Calls Tryz.prog 19 #[.slice a 1 c, .slice (some ⟨w8.heap.size, 0, none⟩) 1 1] (w8.alloc (.cells #[.int .i64 3] 3)) fun e w9 => e = .returned (.bool true) ∧ Below w.heap.size w w9) := by
    refine (new_any w).mono fun e w1 ⟨b, L, he, h1, h2, h3⟩ => ⟨b, he, ?_⟩
    have O1 := One.new h1 h2 h3
    have c1 := fun L hS => vnewG_any w1 b emptySt L 0 hS St.Fit.empty (by decide)
    rw [g26a] at c1
    refine (O1.prog c1).mono fun e w2 ⟨he, O2⟩ => ⟨⟨_, he⟩, ?_⟩
    have c2 := fun L hS => vnewG_any w2 b v26a L 4 hS fv26a (by decide)
    rw [g26b] at c2
    refine (O2.prog c2).mono fun e w3 ⟨he, O3⟩ => ⟨⟨_, he⟩, ?_⟩
    have c3 := fun L hS => vnewG_any w3 b v26b L 8 hS fv26b (by decide)
    rw [g26c] at c3
    refine (O3.prog c3).mono fun e w4 ⟨he, O4⟩ => ⟨⟨_, he⟩, ?_⟩
    have c4 := fun L hS => sregG_any w4 b v26c L 12 9 (by decide) hS fv26c (by decide)
    rw [g26d] at c4
    refine (O4.prog c4).mono fun e w5 ⟨he, O5⟩ => ⟨⟨_, he⟩, ?_⟩
    have B5 := O5.below ((Below.refl w5.heap.size w5).alloc (Nat.le_refl _) (.cells #[.int .i64 1, .int .i64 3] 3))
    obtain ⟨hb5, L5, hS5, hL5⟩ := O5
    obtain ⟨hb5', _⟩ := B5
    have O5' : One w b v26d (w5.alloc (.cells #[.int .i64 1, .int .i64 3] 3)) := ⟨hb5', L5, hS5.alloc _, hL5⟩
    have hno : w5.heap.size ∉ L5 := fun hm => Nat.lt_irrefl _ (hS5.lt _ hm)
    have c5 := snewL_any (w5.alloc (.cells #[.int .i64 1, .int .i64 3] 3)) b v26d L5 14 9 (.slice (some ⟨w5.heap.size, 0, none⟩) 2 2) [1, 3] (by decide) (hS5.alloc _) fv26d (by decide) (fun w' hF => two_stand hno hF) (by decide) (by decide)
    rw [g26e] at c5
    refine c5.mono fun e w6 ⟨he, L6, hS6, hT6⟩ => ⟨he, ?_⟩
    have O6 : One w b v26e w6 := ⟨below_of_step hb5' hL5 hT6, L6, hS6, fun k hk => by
      rcases hT6.own k hk with h8 | h8
      · exact hL5 k h8
      · exact Nat.le_trans hb5'.size h8⟩
    have c6 := fun L hS => sexc_any w6 b v26e L 20 9 0 1 (by decide) (by decide) (by decide) hS fv26e (by decide)
    rw [g26f] at c6
    refine (O6.prog c6).mono fun e w7 ⟨he, O7⟩ => ⟨he, ?_⟩
    obtain ⟨hb7, L7, hS7, hL7⟩ := O7
    have c7 := sstrs_any w7 b v26f L7 22 9 0 (by decide) (by decide) hS7 fv26f (by decide) good26f.2.short good26f.2.noE
    rw [g26g] at c7
    refine c7.mono fun e w8 ⟨v8, he, hr8, hb8⟩ => ?_
    obtain ⟨a8, c8, rfl, hn8⟩ := (row_own hr8).nums (l := [3])
    refine ⟨a8, c8, he, ?_⟩
    have hal := (Below.refl w8.heap.size w8).alloc (Nat.le_refl _) (.cells #[.int .i64 3] 3)
    refine (ints_same _ a8 _ c8 1 [3] (hn8.below hal) (one_int w8 3) (by decide)).mono fun e w9 ⟨he, hb9⟩ => ⟨he, ?_⟩
    have hb78 := bl_then hb7 hb8
    exact bl_then (bl_alloc hb78 _) hb9
  go_enter Tryz.func6, Tryz.ntmps6
  go_wp2_with fail
  refine HN.out.mono ?_
  rintro e w1 ⟨b, rfl, hC⟩
  have H1 := Lib.hid hC
  clear hC HN
  go_wp2_with fail
  refine wp_loop_rounds 4 ?_
  rw [rounds_succ]
  go_wp2_with fail
  refine H1.out.mono ?_
  rintro e w2 ⟨⟨r2, rfl⟩, hC⟩
  have H2 := Lib.hid hC
  clear hC H1
  go_wp2_with fail
  rw [rounds_succ]
  go_wp2_with fail
  refine H2.out.mono ?_
  rintro e w3 ⟨⟨r3, rfl⟩, hC⟩
  have H3 := Lib.hid hC
  clear hC H2
  go_wp2_with fail
  rw [rounds_succ]
  go_wp2_with fail
  refine H3.out.mono ?_
  rintro e w4 ⟨⟨r4, rfl⟩, hC⟩
  have H4 := Lib.hid hC
  clear hC H3
  go_wp2_with fail
  rw [rounds_succ]
  go_wp2_with fail
  refine H4.out.mono ?_
  rintro e w5 ⟨⟨r5, rfl⟩, hC⟩
  have H5 := Lib.hid hC
  clear hC H4
  go_wp2_with fail
  refine H5.out.mono ?_
  rintro e w6 ⟨rfl, hC⟩
  have H6 := Lib.hid hC
  clear hC H5
  go_wp2_with fail
  refine H6.out.mono ?_
  rintro e w7 ⟨rfl, hC⟩
  have H7 := Lib.hid hC
  clear hC H6
  go_wp2_with fail
  refine H7.out.mono ?_
  rintro e w8 ⟨a, c, rfl, hC⟩
  have H8 := Lib.hid hC
  clear hC H7
  go_wp2_with fail
  refine H8.out.mono ?_
  rintro e w9 ⟨rfl, hb9⟩
  go_wp2_with fail
  go_ret
  exact ⟨rfl, hb9⟩

/-- An act that came in. -/
structure A26 where
  k : Int
  who : Int
  set : Int
  g : Int
  ad : Option Addr
  c : Nat
  l : List Int

/-- Acts that came in. -/
structure Acts26In (w : World) (a : Option Addr) (xs : List A26) : Prop where
  at0 : ∀ k x, xs[k]? = some x → ∃ p, a = some p ∧ w.cell? ((p.add (k * 5)).add 0) = some (.int .i64 x.k) ∧ w.cell? ((p.add (k * 5)).add 1) = some (.int .i64 x.who) ∧ w.cell? ((p.add (k * 5)).add 2) = some (.int .i64 x.set) ∧ w.cell? ((p.add (k * 5)).add 3) = some (.int .i64 x.g) ∧ w.cell? ((p.add (k * 5)).add 4) = some (.slice x.ad x.l.length x.c)
  ints : ∀ x ∈ xs, IntsAt w (.slice x.ad x.l.length x.c) x.l
  lt : ∀ x ∈ xs, x.who < 9223372036854775808 ∧ x.set < 9223372036854775808 ∧ x.g < 9223372036854775808 ∧ ∀ n ∈ x.l, n < 9223372036854775808

theorem add_m26 (a : Addr) (n : Nat) (h : n ≠ 0) : a.add n = ⟨a.block, a.off + n, none⟩ := by
  simp [Addr.add, h]

/-- The same, where the walk asks. -/
def At26 (a : Option Addr) (k : Nat) (x : A26) (wr : World) : Prop := ∃ ad, a = some ad ∧ wr.cell? (ad.add (k * 5)) = some (.int .i64 x.k) ∧ wr.cell? ⟨(ad.add (k * 5)).block, (ad.add (k * 5)).off + 1, none⟩ = some (.int .i64 x.who) ∧ wr.cell? ⟨(ad.add (k * 5)).block, (ad.add (k * 5)).off + 2, none⟩ = some (.int .i64 x.set) ∧ wr.cell? ⟨(ad.add (k * 5)).block, (ad.add (k * 5)).off + 3, none⟩ = some (.int .i64 x.g) ∧ wr.cell? ⟨(ad.add (k * 5)).block, (ad.add (k * 5)).off + 4, none⟩ = some (.slice x.ad x.l.length x.c)
theorem Acts26In.at5 {w wr : World} {a : Option Addr} {l : List A26} (h : Acts26In w a l) {k : Nat} {x : A26} (hb : Below w.heap.size w wr) (hk : l[k]? = some x) : At26 a k x wr := by
  obtain ⟨ad, e, h0, h1, h2, h3, h4⟩ := h.at0 k x hk
  have go : ∀ p v, w.cell? p = some v → wr.cell? p = some v := fun p v hp => by rw [hb.cell (World.block_lt_of_cell? w _ hp)]; exact hp
  rw [Addr.add_zero'] at h0
  rw [add_m26 _ 1 (by decide)] at h1
  rw [add_m26 _ 2 (by decide)] at h2
  rw [add_m26 _ 3 (by decide)] at h3
  rw [add_m26 _ 4 (by decide)] at h4
  exact ⟨ad, e, go _ _ h0, go _ _ h1, go _ _ h2, go _ _ h3, go _ _ h4⟩

def lightL (l : List A26) : Bool := decide (l.length ≤ 100) && l.all fun x => decide (x.l.length ≤ 30)
theorem light_no {l : List A26} {k : Nat} {x : A26} (h : l[k]? = some x) (hx : 30 < x.l.length) : lightL l = false := by
  unfold lightL
  have : (l.all fun x => decide (x.l.length ≤ 30)) = false := by
    rw [List.all_eq_false]
    exact ⟨x, List.mem_of_getElem? h, by simpa using hx⟩
  rw [this, Bool.and_false]
theorem light_end {l : List A26} (hl : l.length ≤ 100) (h : ∀ (j : Nat) (x : A26), l[j]? = some x → x.l.length ≤ 30) : lightL l = true := by
  unfold lightL
  rw [decide_eq_true hl, Bool.true_and, List.all_eq_true]
  intro x hx
  obtain ⟨j, hj⟩ := List.getElem?_of_mem hx
  exact decide_eq_true (h j x hj)

set_option maxRecDepth 100000 in
set_option maxHeartbeats 4000000 in
theorem light_any (w : World) (a : Option Addr) (c : Nat) (l : List A26) (h : Acts26In w a l) : Calls Tryz.prog 5 #[.slice a l.length c] w (RetBool w (lightL l)) := by
  by_cases h100 : 100 < l.length
  · have hd : decide ((100 : Int) < (l.length : Int)) = true := decide_eq_true (by omega)
    have hr : lightL l = false := by unfold lightL; rw [decide_eq_false (by omega), Bool.false_and]
    rw [hr]
    clear h hr
    generalize l.length = n at *
    go_enter Tryz.func5, Tryz.ntmps5
    go_wp2_with fail
    go_ret
    exact ⟨rfl, Below.refl _ _⟩
  · have hd : decide ((100 : Int) < (l.length : Int)) = false := decide_eq_false (by omega)
    have HC : Hid (∀ wr k x, Below w.heap.size w wr → l[k]? = some x → At26 a k x wr) := fun wr k x hb hk => h.at5 hb hk
    have HG : Hid (∀ k, k < l.length → ∃ x, l[k]? = some x) := fun k hk => ⟨_, List.getElem?_eq_getElem hk⟩
    have HN : Hid (∀ (k : Nat) x wr, l[k]? = some x → 30 < x.l.length → Below w.heap.size w wr → RetBool w (lightL l) (.returned (.bool false)) wr) := fun k x wr hk hx hb => ⟨by rw [light_no hk hx], hb⟩
    have HE : Hid (∀ wr, (∀ (j : Nat) x, j < l.length → l[j]? = some x → x.l.length ≤ 30) → Below w.heap.size w wr → RetBool w (lightL l) (.returned (.bool true)) wr) := fun wr hh hb => ⟨by rw [light_end (by omega) fun j x hj => hh j x (List.getElem?_eq_some_iff.1 hj).1 hj], hb⟩
    have hb00 := Below.refl w.heap.size w
    clear h
    generalize RetBool w (lightL l) = R at *
    generalize hln : l.length = n at *
    have HLN := Lib.hid hln
    clear hln
    go_enter Tryz.func5, Tryz.ntmps5
    go_wp2_with fail
    go_loopw [10] (fun i wr => ∃ k : Nat, i = .int .i64 k ∧ k ≤ n ∧ (∀ (j : Nat) x, j < k → l[j]? = some x → x.l.length ≤ 30) ∧ Below w.heap.size w wr) (fun i _ => n - (intOf i).toNat)
    case atStart => exact ⟨0, rfl, by omega, fun j x hj _ => by omega, hb00⟩
    case round =>
      obtain ⟨k, rfl, hk, hS, hB⟩ := hrel
      have HS := Lib.hid hS
      have HB := Lib.hid hB
      clear hS hB
      by_cases hlt : k < n
      · obtain ⟨x, hx⟩ := HG.out k hlt
        obtain ⟨ad, rfl, q0, q1, q2, q3, q4⟩ := HC.out wr k _ HB.out hx
        have HX := Lib.hid hx
        have hba := bl_alloc HB.out (.cells #[.int .i64 x.k, .int .i64 x.who, .int .i64 x.set, .int .i64 x.g, .slice x.ad x.l.length x.c] 34)
        have HBA := Lib.hid hba
        clear hx hba
        by_cases h30 : 30 < x.l.length
        · have hd30 : decide ((30 : Int) < (x.l.length : Int)) = true := decide_eq_true (by omega)
          have HR := Lib.hid (HN.out k x _ HX.out h30 HBA.out)
          generalize x.l.length = xl at *
          go_wp2_with fail
          exact HR.out
        · have hd30 : decide ((30 : Int) < (x.l.length : Int)) = false := decide_eq_false (by omega)
          have HR : Hid (∀ (j : Nat) y, j < k + 1 → l[j]? = some y → y.l.length ≤ 30) := fun j y hj hy => by
            by_cases e : j = k
            · subst e; rw [HX.out] at hy; cases hy; omega
            · exact HS.out j y (by omega) hy
          generalize x.l.length = xl at *
          go_wp2_with fail
          go_roundw
          case rel => exact ⟨k + 1, by go_num, by omega, HR.out, HBA.out⟩
          case measure => simp [intOf]; omega
      · obtain rfl : k = n := by omega
        have HR := Lib.hid (HE.out wr HS.out HB.out)
        go_wp2_with fail
        exact HR.out
end Go.Proofs.YtnblhjndngpbnaaGreat
