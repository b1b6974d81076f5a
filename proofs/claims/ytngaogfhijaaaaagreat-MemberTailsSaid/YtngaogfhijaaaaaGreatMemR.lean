/- What is proved here: the reference's member key, In, Until, Slashable. Their conditions: numbers below 2^63, sizes. -/
import Derived.Test.YtngaogfhijaaaaaGreatMemP
namespace Go.Proofs.YtngaogfhijaaaaaGreat
open Go.RowKit

theorem rmKey_any (w : World) (a n o : Int) (ha : a < 9223372036854775808) (hn : n < 9223372036854775808) (ho : o < 9223372036854775808) :
    Calls Tryz.prog 51 #[.int .i64 a, .int .i64 n, .int .i64 o] w fun e w' => e = .returned (.string (K24 a n o)) ∧ Below w.heap.size w w' := by
  have HK := Lib.hid (rkey_new3 24 (by decide) (by decide) a n o ha hn ho w)
  unfold K24
  generalize keyL 24 [a, n, o] = kk at *
  go_enter Tryz.func51, Tryz.ntmps51
  go_wp2_with fail
  refine Calls.mono HK.out ?_
  rintro e w1 ⟨rfl, hb1⟩
  go_wp2_with fail
  go_ret
  exact ⟨rfl, hb1⟩

theorem RRep.row {w : World} {b : Nat} {s : St} {M : List Nat} (h : RRep w b s M) (k : ByteArray) (hv : (s.val k).size < 1000000000000) (hn : s.size < 1000000000000) : Calls Tryz.prog 50 #[.pointer (some ⟨b, 0, none⟩), .string k] w (RetRowG w (rowOf (s.val k))) :=
  rrowG_any w b k _ _ (rget_any w b s M k h (by unfold St.size at hn; omega)) hv

/-- The key, and the row behind it. -/
abbrev RowChain (w : World) (m : Nat) (a n o : Int) (kk : ByteArray) (l : List Nat) : Prop :=
  Calls Tryz.prog 51 #[.int .i64 a, .int .i64 n, .int .i64 o] w fun e w1 => e = .returned (.string kk) ∧
    Calls Tryz.prog 50 #[.pointer (some ⟨m, 0, none⟩), .string kk] w1 fun e w2 => ∃ v, e = .returned v ∧ Own w2 3 1 v l.length (intsV l) ∧ Below w.heap.size w w2

theorem rowChain {w : World} {m : Nat} {s : St} {M : List Nat} {f : Nat} {a n o : Int} (ha : a < 9223372036854775808) (hn : n < 9223372036854775808) (ho : o < 9223372036854775808) (h : RRep w m s M) (hf : s.Fit f) (hm : f < 100000000000) : RowChain w m a n o (K24 a n o) (rowOf (s.val (K24 a n o))) := by
  refine (rmKey_any w a n o ha hn ho).mono fun e w1 ⟨he, hb1⟩ => ⟨he, ?_⟩
  exact ((h.below hb1).row _ (hf.val' _) (by have := hf.size; omega)).mono fun e w2 ⟨v, he, hO, _, hb2⟩ => ⟨v, he, hO, bl_then hb1 hb2⟩

theorem pair_no {l : List Nat} (h : l.length ≠ 2) : pairOf l = (0, 0) := by
  unfold pairOf
  match l, h with
  | [], _ => rfl
  | [_], _ => rfl
  | [_, _], h => exact absurd rfl h
  | _ :: _ :: _ :: _, _ => rfl
theorem two_of {l : List Nat} (h : l.length = 2) : ∃ x y, l = [x, y] := by
  match l, h with
  | [x, y], _ => exact ⟨x, y, rfl⟩

theorem RowChain.no {w : World} {m : Nat} {a n o : Int} {kk : ByteArray} {l : List Nat} (h : RowChain w m a n o kk l) : Calls Tryz.prog 51 #[.int .i64 a, .int .i64 n, .int .i64 o] w fun e w1 => e = .returned (.string kk) ∧
    Calls Tryz.prog 50 #[.pointer (some ⟨m, 0, none⟩), .string kk] w1 fun e w2 => ∃ ad c, e = .returned (.slice ad l.length c) ∧ Below w.heap.size w w2 := by
  refine h.mono fun e w1 ⟨he, h1⟩ => ⟨he, h1.mono fun e w2 ⟨v, he, hO, hb⟩ => ?_⟩
  obtain ⟨ad, c, hu, _⟩ := hO.form
  subst hu
  exact ⟨ad, c, he, hb⟩
theorem RowChain.yes {w : World} {m : Nat} {a n o : Int} {kk : ByteArray} {x y : Nat} (h : RowChain w m a n o kk [x, y]) : Calls Tryz.prog 51 #[.int .i64 a, .int .i64 n, .int .i64 o] w fun e w1 => e = .returned (.string kk) ∧
    Calls Tryz.prog 50 #[.pointer (some ⟨m, 0, none⟩), .string kk] w1 fun e w2 => ∃ g c, e = .returned (.slice (some ⟨g, 0, none⟩) 2 c) ∧ w2.cell? ⟨g, 0, none⟩ = some (.int .i64 x) ∧ w2.cell? ⟨g, 1, none⟩ = some (.int .i64 y) ∧ Below w.heap.size w w2 := by
  refine h.mono fun e w1 ⟨he, h1⟩ => ⟨he, h1.mono fun e w2 ⟨v, he, hO, hb⟩ => ?_⟩
  obtain ⟨g, c, hu, h0, h1⟩ := own_two hO
  subst hu
  exact ⟨g, c, he, h0, h1, hb⟩

set_option maxRecDepth 100000 in
set_option maxHeartbeats 1000000 in
theorem rmIn_any (w : World) (m : Nat) (s : St) (M : List Nat) (f : Nat) (a n o : Int) (ha : a < 9223372036854775808) (hn : n < 9223372036854775808) (ho : o < 9223372036854775808) (h : RRep w m s M) (hf : s.Fit f) (hm : f < 100000000000) :
    Calls Tryz.prog 16 #[.pointer (some ⟨m, 0, none⟩), .int .i64 a, .int .i64 n, .int .i64 o] w (RetBool w (mIn s a n o)) := by
  have HC := rowChain ha hn ho h hf hm
  have HE : Hid (mIn s a n o = ((pairOf (rowOf (s.val (K24 a n o)))).1 == 1)) := rfl
  generalize mIn s a n o = r at *
  generalize rowOf (s.val (K24 a n o)) = l at *
  generalize K24 a n o = kk at *
  clear h hf hm ha hn ho
  by_cases h2 : l.length = 2
  · obtain ⟨x, y, rfl⟩ := two_of h2
    have HC1 := Lib.hid HC.yes
    have HX : Hid (((x : Int) == 1) = r) := by
      show _ = _; rw [HE.out]; show _ = (x == 1); rw [Bool.eq_iff_iff]; simp only [beq_iff_eq]; omega
    clear HC HE h2
    go_enter Tryz.func16, Tryz.ntmps16
    go_wp2_with fail
    refine Calls.mono HC1.out ?_
    rintro e w1 ⟨rfl, hC⟩
    have HC2 := Lib.hid hC
    clear hC HC1
    go_wp2_with fail
    refine Calls.mono HC2.out ?_
    rintro e w2 ⟨g, c, rfl, c0, c1, hb⟩
    clear HC2
    go_wp2_with fail
    go_ret
    exact ⟨congrArg (fun x => Ending.returned (.bool x)) HX.out, hb⟩
  · have HC1 := Lib.hid HC.no
    have hne : ((l.length : Int) == 2) = false := beq_eq_false_iff_ne.2 (by omega)
    have HX : Hid (r = false) := by show _ = _; rw [HE.out, pair_no h2]; rfl
    clear HC HE h2
    generalize l.length = ln at *
    go_enter Tryz.func16, Tryz.ntmps16
    go_wp2_with fail
    refine Calls.mono HC1.out ?_
    rintro e w1 ⟨rfl, hC⟩
    have HC2 := Lib.hid hC
    clear hC HC1
    go_wp2_with fail
    refine Calls.mono HC2.out ?_
    rintro e w2 ⟨ad, c, rfl, hb⟩
    clear HC2
    go_wp2_with fail
    go_ret
    exact ⟨by rw [HX.out]; rfl, hb⟩

set_option maxRecDepth 100000 in
set_option maxHeartbeats 1000000 in
theorem rmUntil_any (w : World) (m : Nat) (s : St) (M : List Nat) (f : Nat) (a n o : Int) (ha : a < 9223372036854775808) (hn : n < 9223372036854775808) (ho : o < 9223372036854775808) (h : RRep w m s M) (hf : s.Fit f) (hm : f < 100000000000) :
    Calls Tryz.prog 20 #[.pointer (some ⟨m, 0, none⟩), .int .i64 a, .int .i64 n, .int .i64 o] w fun e w' => e = .returned (.tuple #[.int .i64 (mUntil s a n o).1, .bool (mUntil s a n o).2]) ∧ Below w.heap.size w w' := by
  have HC := rowChain ha hn ho h hf hm
  have HE : Hid (mUntil s a n o = if (pairOf (rowOf (s.val (K24 a n o)))).1 = 2 then ((pairOf (rowOf (s.val (K24 a n o)))).2, true) else (0, false)) := rfl
  generalize mUntil s a n o = r at *
  generalize rowOf (s.val (K24 a n o)) = l at *
  generalize K24 a n o = kk at *
  clear h hf hm ha hn ho
  by_cases h2 : l.length = 2
  · obtain ⟨x, y, rfl⟩ := two_of h2
    have HC1 := Lib.hid HC.yes
    have HX : Hid (r = if x = 2 then (y, true) else (0, false)) := HE.out
    clear HC HE h2
    cases hx : ((x : Int) == 2) with
    | true =>
      have hr : r = (y, true) := by rw [HX.out, if_pos (by have := eq_of_beq hx; omega)]
      subst hr
      have hx' : ((x : Int) != 2) = false := by rw [bne, hx]; rfl
      clear HX
      go_enter Tryz.func20, Tryz.ntmps20
      go_wp2_with fail
      refine Calls.mono HC1.out ?_
      rintro e w1 ⟨rfl, hC⟩
      have HC2 := Lib.hid hC
      clear hC HC1
      go_wp2_with fail
      refine Calls.mono HC2.out ?_
      rintro e w2 ⟨g, c, rfl, c0, c1, hb⟩
      clear HC2
      go_wp2_with fail
      refine bodyPost_ret (results_tmp2 rfl _ _ _) rfl ?_
      exact ⟨rfl, hb⟩
    | false =>
      have hr : r = (0, false) := by rw [HX.out, if_neg (fun h => by rw [h] at hx; cases hx)]
      subst hr
      have hx' : ((x : Int) != 2) = true := by rw [bne, hx]; rfl
      clear HX
      go_enter Tryz.func20, Tryz.ntmps20
      go_wp2_with fail
      refine Calls.mono HC1.out ?_
      rintro e w1 ⟨rfl, hC⟩
      have HC2 := Lib.hid hC
      clear hC HC1
      go_wp2_with fail
      refine Calls.mono HC2.out ?_
      rintro e w2 ⟨g, c, rfl, c0, c1, hb⟩
      clear HC2
      go_wp2_with fail
      refine bodyPost_ret (results_tmp2 rfl _ _ _) rfl ?_
      exact ⟨rfl, hb⟩
  · have HC1 := Lib.hid HC.no
    have hne : ((l.length : Int) == 2) = false := beq_eq_false_iff_ne.2 (by omega)
    have hr : r = (0, false) := by rw [HE.out, pair_no h2]; rfl
    have hne' : ((l.length : Int) != 2) = true := by rw [bne, hne]; rfl
    subst hr
    clear HC HE h2
    generalize l.length = ln at *
    go_enter Tryz.func20, Tryz.ntmps20
    go_wp2_with fail
    refine Calls.mono HC1.out ?_
    rintro e w1 ⟨rfl, hC⟩
    have HC2 := Lib.hid hC
    clear hC HC1
    go_wp2_with fail
    refine Calls.mono HC2.out ?_
    rintro e w2 ⟨ad, c, rfl, hb⟩
    clear HC2
    go_wp2_with fail
    refine bodyPost_ret (results_tmp2 rfl _ _ _) rfl ?_
    exact ⟨rfl, hb⟩

set_option maxRecDepth 100000 in
set_option maxHeartbeats 1000000 in
theorem rmSlash_any (w : World) (m : Nat) (s : St) (M : List Nat) (f : Nat) (a n o b : Int) (ha : a < 9223372036854775808) (hn : n < 9223372036854775808) (ho : o < 9223372036854775808) (h : RRep w m s M) (hf : s.Fit f) (hm : f < 100000000000) :
    Calls Tryz.prog 17 #[.pointer (some ⟨m, 0, none⟩), .int .i64 a, .int .i64 n, .int .i64 o, .int .i64 b] w (RetBool w (mSlash s a n o b)) := by
  have HI : Hid (Calls Tryz.prog 20 #[.pointer (some ⟨m, 0, none⟩), .int .i64 a, .int .i64 n, .int .i64 o] w fun e w1 => e = .returned (.tuple #[.int .i64 (mUntil s a n o).1, .bool (mUntil s a n o).2]) ∧ Below w.heap.size w w1 ∧
      Calls Tryz.prog 16 #[.pointer (some ⟨m, 0, none⟩), .int .i64 a, .int .i64 n, .int .i64 o] w1 fun e w2 => e = .returned (.bool (mIn s a n o)) ∧ Below w.heap.size w w2) := by
    refine (rmUntil_any w m s M f a n o ha hn ho h hf hm).mono fun e w1 ⟨he, hb⟩ => ⟨he, hb, ?_⟩
    exact (rmIn_any w1 m s M f a n o ha hn ho (h.below hb) hf hm).mono fun e w2 ⟨he, hb2⟩ => ⟨he, bl_then hb hb2⟩
  have HE : Hid (mSlash s a n o b = (mIn s a n o || ((mUntil s a n o).2 && decide (b ≤ ((mUntil s a n o).1 : Int))))) := rfl
  generalize mSlash s a n o b = r at *
  generalize mIn s a n o = i at *
  generalize mUntil s a n o = u at *
  clear h hf
  obtain ⟨u, l⟩ := u
  simp only at HI HE
  cases i <;> cases l
  all_goals
    go_enter Tryz.func17, Tryz.ntmps17
    go_wp2_with fail
    refine Calls.mono HI.out ?_
    rintro e w1 ⟨rfl, hb, hC⟩
    have HC := Lib.hid hC
    clear hC HI
    go_wp2_with fail
    refine Calls.mono HC.out ?_
    rintro e w2 ⟨rfl, hb2⟩
    go_wp2_with fail
    go_ret
    exact ⟨by rw [HE.out]; rfl, hb2⟩
end Go.Proofs.YtngaogfhijaaaaaGreat
