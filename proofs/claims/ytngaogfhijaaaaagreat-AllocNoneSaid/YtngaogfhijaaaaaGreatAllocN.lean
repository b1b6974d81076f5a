/- What is proved here: alloc where no store was made: Modify, Mature, Waits. Its condition: ints below 2^63. -/
import Derived.Test.YtngaogfhijaaaaaGreatAllocP
namespace Go.Proofs.YtngaogfhijaaaaaGreat
open Go.RowKit

abbrev chL (a b : W4) (x y z : Int) (t : Bool) : Array Value := #[.int .u64 a.1, .int .u64 a.2.1, .int .u64 a.2.2.1, .int .u64 a.2.2.2, .int .u64 b.1, .int .u64 b.2.1, .int .u64 b.2.2.1, .int .u64 b.2.2.2, .int .i64 x, .int .i64 y, .int .i64 z, .bool t]
abbrev chV (a b : W4) (x y z : Int) (t : Bool) : Value := .agg (chL a b x y z t)

set_option maxRecDepth 100000 in
set_option maxHeartbeats 1000000 in
theorem modify_not (w : World) (q : Option Addr) (x : I4) (cv : Array Value) (h : NoStore w q) : Calls Tryz.prog 23 #[.pointer q, idV x, .agg cv] w fun e w' => e = .returned (.tuple #[.int .i64 0, .int .i64 1]) ∧ Below w.heap.size w w' := by
  have hb := bl_alloc (bl_alloc (Below.refl _ w) (.cells (idL x) 62)) (.cells cv 67)
  have HM := Lib.hid (h.below hb).made
  have HB := Lib.hid hb
  clear h hb
  go_enter Tryz.func23, Tryz.ntmps23
  go_wp2_with fail
  refine Calls.mono HM.out ?_
  rintro e w' ⟨rfl, rfl⟩
  go_wp2_with fail
  refine bodyPost_ret (results_tmp2 rfl _ _ _) rfl ?_
  exact ⟨rfl, HB.out⟩

set_option maxRecDepth 100000 in
set_option maxHeartbeats 1000000 in
/-- Nothing is pending: nothing matures. -/
theorem mature_no (w : World) (q : Option Addr) (s : St) (x : I4) (hx : x.Ok) (h : ReadAt w.heap.size w q s) (h0 : (pend s x).1 = 0) : Calls Tryz.prog 25 #[.pointer q, idV x] w fun e w' => e = .returned (.bool false) ∧ Below w.heap.size w w' := by
  have hb0 := bl_alloc (Below.refl _ w) (.cells (idL x) 62)
  have hc := idc_row (heap_alloc_new w (.cells (idL x) 62))
  obtain ⟨q0, q1, q2, q3⟩ := id hc
  have HP : Hid (Calls Tryz.prog 24 #[.pointer q, idV x] (w.alloc (.cells (idL x) 62)) fun e w1 => e = .returned (.tuple #[.int .i64 0, uV (pend s x).2.1, .int .i64 (pend s x).2.2]) ∧ Below w.heap.size w w1 ∧ IdC w.heap.size x w1) := by
    refine (pending_any _ q s x hx ((h.below hb0).up hb0.size)).mono fun e w1 ⟨he, hb⟩ => ⟨by rw [he, h0]; rfl, bl_then hb0 hb, idc_below hc hb⟩
  have HC : Hid (∀ W, Below w.heap.size w W → Calls Tryz.prog 26 #[.pointer q, idV x] W fun e w1 => e = .returned (uV (cur s x)) ∧ Below w.heap.size w w1) := fun W hb => (current_any W q s x hx ((h.below hb).up hb.size)).mono fun e w1 ⟨he, hb1⟩ => ⟨he, bl_then hb hb1⟩
  clear h h0 hb0 hc
  generalize (pend s x).2.1 = y at *
  generalize (pend s x).2.2 = z at *
  generalize cur s x = c at *
  go_enter Tryz.func25, Tryz.ntmps25
  go_wp2_with fail
  refine Calls.mono HP.out ?_
  rintro e w1 ⟨rfl, hb1, i0, i1, i2, i3⟩
  have hn1 := World.block_lt_of_cell? w1 _ i0
  have hn2 : w1.heap.size ≠ w.heap.size := Ne.symm (Nat.ne_of_lt hn1)
  have hn3 := Ne.symm hn2
  have HC1 : Hid (Calls Tryz.prog 26 #[.pointer q, idV x] (w1.alloc (.cells (uL y) 65)) fun e w1 => e = .returned (uV c) ∧ Below w.heap.size w w1) := HC.out _ (bl_alloc hb1 _)
  clear HC HP
  go_wp2_with fail
  refine Calls.mono HC1.out ?_
  rintro e w2 ⟨rfl, hb2⟩
  have HB2 := Lib.hid hb2
  clear hb2 HC1
  go_wp2_with fail
  go_ret
  exact ⟨rfl, bl_alloc HB2.out _⟩

abbrev qL (q : Option Addr) (t : Int) (v : Value) (a b : Int) : Array Value := #[.pointer q, .int .i64 t, v, .int .i64 a, .int .i64 b]
theorem row5 {w : World} {g : Nat} {a b c d e : Value} {t : TypeId} (h : w.heap[g]? = some (.cells #[a, b, c, d, e] t (0, 0))) : (w.cell? ⟨g, 0, none⟩ = some a ∧ w.cell? ⟨g, 1, none⟩ = some b ∧ w.cell? ⟨g, 2, none⟩ = some c ∧ w.cell? ⟨g, 3, none⟩ = some d ∧ w.cell? ⟨g, 4, none⟩ = some e) ∧ w.frozen? ⟨g, 0, none⟩ = false ∧ w.frozen? ⟨g, 1, none⟩ = false ∧ w.frozen? ⟨g, 2, none⟩ = false ∧ w.frozen? ⟨g, 3, none⟩ = false ∧ w.frozen? ⟨g, 4, none⟩ = false :=
  ⟨⟨by rw [cell_of_row _ _ _ _ _ _ h]; rfl, by rw [cell_of_row _ _ _ _ _ _ h]; rfl, by rw [cell_of_row _ _ _ _ _ _ h]; rfl, by rw [cell_of_row _ _ _ _ _ _ h]; rfl, by rw [cell_of_row _ _ _ _ _ _ h]; rfl⟩, frozen_of_row _ _ _ _ _ h, frozen_of_row _ _ _ _ _ h, frozen_of_row _ _ _ _ _ h, frozen_of_row _ _ _ _ _ h, frozen_of_row _ _ _ _ _ h⟩

theorem heap_drew' (w : World) : w.drew.heap = w.heap := rfl
theorem rowOf_empty : rowOf emptyB = [] := by unfold rowOf emptyB; rfl

set_option maxRecDepth 100000 in
set_option maxHeartbeats 1000000 in
theorem of_not (w : World) (q : Option Addr) (t : Nat) (ht1 : 1 ≤ t) (ht2 : t ≤ 255) (ad : Option Addr) (c : Nat) (l : List Int) (hv : IntsAt w (.slice ad l.length c) l) (hl : l.length < 1000000) (hr : ∀ n ∈ l, n < 9223372036854775808) (h : NoStore w q) : Calls Tryz.prog 130 #[.pointer q, .int .i64 t, .slice ad l.length c] w fun e w' => e = .returned (.agg (qL q t (.slice ad l.length c) 0 0)) ∧ Below w.heap.size w w' := by
  have hb0 := bl_alloc (bl_alloc (Below.refl _ w) (.cells (qL none 0 (.slice none 0 0) 0 0) 173)) (.cells (qL q t (.slice ad l.length c) 0 0) 173)
  have HC : Hid (Calls Tryz.prog 75 #[.int .i64 t, .slice ad l.length c] ((w.alloc (.cells (qL none 0 (.slice none 0 0) 0 0) 173)).alloc (.cells (qL q t (.slice ad l.length c) 0 0) 173)) fun e w1 => e = .returned (.string (keyL t l)) ∧
    Calls Tryz.prog 65 #[.pointer q, .string (keyL t l)] w1 fun e w2 => ∃ a2 c2, e = .returned (.slice a2 0 c2) ∧ Below w.heap.size w w2 ∧ w2.heap[w.heap.size]? = some (.cells (qL none 0 (.slice none 0 0) 0 0) 173 (0, 0)) ∧ w2.heap[w.heap.size + 1]? = some (.cells (qL q t (.slice ad l.length c) 0 0) 173 (0, 0))) := by
    have hr0 : ((w.alloc (.cells (qL none 0 (.slice none 0 0) 0 0) 173)).alloc (.cells (qL q t (.slice ad l.length c) 0 0) 173)).heap[w.heap.size]? = some (.cells (qL none 0 (.slice none 0 0) 0 0) 173 (0, 0)) := by
      rw [heap_alloc_old _ _ (by simp)]; exact heap_alloc_new w (.cells (qL none 0 (.slice none 0 0) 0 0) 173)
    have hr1 := heap_alloc_new (w.alloc (.cells (qL none 0 (.slice none 0 0) 0 0) 173)) (.cells (qL q t (.slice ad l.length c) 0 0) 173)
    rw [World.size_alloc] at hr1
    refine (key_any t ht1 ht2 _ l _ (hv.below hb0) (by omega) hr).mono fun e w1 ⟨he, hb⟩ => ⟨he, ?_⟩
    have hb1 := bl_then hb0 hb
    have hp0 := (hb.block _ (Array.getElem?_eq_some_iff.1 hr0).1).trans hr0
    have hp1 := (hb.block _ (Array.getElem?_eq_some_iff.1 hr1).1).trans hr1
    refine ((ReadAt.not (h.below hb1)).row (keyL t l)).mono fun e w2 ⟨v, he, ho, hg, hb2⟩ => ?_
    rw [show rowOf ((⟨[], []⟩ : St).val (keyL t l)) = [] from rowOf_empty] at ho
    obtain ⟨a2, c2, rfl, _⟩ := ho.form
    exact ⟨a2, c2, he, bl_then hb1 hb2, (hb2.block _ (Array.getElem?_eq_some_iff.1 hp0).1).trans hp0, (hb2.block _ (Array.getElem?_eq_some_iff.1 hp1).1).trans hp1⟩
  clear h hb0 hv hr
  generalize keyL t l = k at *
  generalize l.length = n at *
  go_enter Tryz.func130, Tryz.ntmps130
  go_wp2_with fail
  refine Calls.mono HC.out ?_
  rintro e w1 ⟨rfl, hD⟩
  have HD := Lib.hid hD
  clear hD HC
  go_wp2_with fail
  refine Calls.mono HD.out ?_
  rintro e w2 ⟨a2, c2, rfl, hb2, hr0, hr1⟩
  have HR0 := Lib.hid hr0
  have HB := Lib.hid hb2
  have f0 := row5 hr0
  have f1 := row5 hr1
  obtain ⟨⟨_, _, _, _, _⟩, _, _, _, _, _⟩ := f0
  obtain ⟨⟨_, _, _, _, _⟩, _⟩ := f1
  clear HD hr0 hr1 hb2
  go_wp2_with fail
  go_region
  all_goals
    go_wp2_with fail
    refine bodyPost_ret (results_cell_row rfl _ _ w.heap.size 173 (qL q t (.slice ad n c) 0 0) (0, 0) _ rfl ?_ Tryz.underlying173 rfl (by kernel_rfl)) rfl ?_
    · rw [heap_drew']
      exact setCell_row _ (setCell_row _ (setCell_row _ (setCell_row _ (setCell_row _ HR0.out))))
    · exact ⟨rfl, bl_drew ((put4_below HB.out (Nat.le_refl _) _ _ _ _).setCell (p := ⟨w.heap.size, 4, none⟩) (Nat.le_refl _) _)⟩

set_option maxRecDepth 100000 in
set_option maxHeartbeats 1000000 in
theorem qlen_any (w : World) (q : Option Addr) (t : Int) (v : Value) (a b : Nat) (hab : a ≤ b) (hb : b < 9223372036854775808) : Calls Tryz.prog 135 #[.agg (qL q t v a b)] w fun e w' => e = .returned (.int .i64 ((b - a : Nat) : Int)) ∧ Below w.heap.size w w' := by
  have hb0 := bl_alloc (Below.refl _ w) (.cells (qL q t v a b) 173)
  have f0 := row5 (heap_alloc_new w (.cells (qL q t v a b) 173))
  obtain ⟨⟨_, _, _, c3, c4⟩, _⟩ := f0
  go_enter Tryz.func135, Tryz.ntmps135
  go_wp2_with fail
  go_ret
  exact ⟨by simp; omega, hb0⟩

set_option maxRecDepth 100000 in
set_option maxHeartbeats 1000000 in
theorem qlen_not (w : World) (q : Option Addr) (t : Nat) (ht1 : 1 ≤ t) (ht2 : t ≤ 255) (ad : Option Addr) (c : Nat) (l : List Int) (hv : IntsAt w (.slice ad l.length c) l) (hl : l.length < 1000000) (hr : ∀ n ∈ l, n < 9223372036854775808) (h : NoStore w q) : Calls Tryz.prog 77 #[.pointer q, .int .i64 t, .slice ad l.length c] w fun e w' => e = .returned (.int .i64 0) ∧ Below w.heap.size w w' := by
  have HO := Lib.hid (of_not w q t ht1 ht2 ad c l hv hl hr h)
  have HL : Hid (∀ w1, Below w.heap.size w w1 → Calls Tryz.prog 135 #[.agg (qL q t (.slice ad l.length c) 0 0)] w1 fun e w' => e = .returned (.int .i64 0) ∧ Below w.heap.size w w') := fun w1 hb => (qlen_any w1 q t _ 0 0 (Nat.le_refl _) (by decide)).mono fun e w' ⟨he, h1⟩ => ⟨he, bl_then hb h1⟩
  clear h hv hr
  go_enter Tryz.func77, Tryz.ntmps77
  go_wp2_with fail
  refine Calls.mono HO.out ?_
  rintro e w1 ⟨rfl, hb1⟩
  go_wp2_with fail
  refine Calls.mono (HL.out _ hb1) ?_
  rintro e w2 ⟨rfl, hb2⟩
  go_wp2_with fail
  go_ret
  exact ⟨rfl, hb2⟩

set_option maxRecDepth 100000 in
set_option maxHeartbeats 1000000 in
theorem waits_not (w : World) (q : Option Addr) (a b : Int) (ha : a < 9223372036854775808) (hb : b < 9223372036854775808) (h : NoStore w q) : Calls Tryz.prog 29 #[.pointer q, .int .i64 a, .int .i64 b] w fun e w' => e = .returned (.int .i64 0) ∧ Below w.heap.size w w' := by
  have hb0 := bl_alloc (Below.refl _ w) (.cells #[.int .i64 a, .int .i64 b] 3)
  have HL : Hid (Calls Tryz.prog 77 #[.pointer q, .int .i64 33, .slice (some ⟨w.heap.size, 0, none⟩) 2 2] (w.alloc (.cells #[.int .i64 a, .int .i64 b] 3)) fun e w' => e = .returned (.int .i64 0) ∧ Below w.heap.size w w') :=
    (qlen_not _ q 33 (by decide) (by decide) _ 2 [a, b] (two_ints' _ _ _ _ (heap_alloc_new w (.cells #[.int .i64 a, .int .i64 b] 3))) (by simp) (fun m hm => by
      simp only [List.mem_cons, List.not_mem_nil, or_false] at hm
      rcases hm with rfl | rfl <;> assumption) (h.below hb0)).mono fun e w' ⟨he, h1⟩ => ⟨he, bl_then hb0 h1⟩
  clear h
  go_enter Tryz.func29, Tryz.ntmps29
  go_wp2_with fail
  refine Calls.mono HL.out ?_
  rintro e w1 ⟨rfl, hb1⟩
  go_wp2_with fail
  go_ret
  exact ⟨rfl, hb1⟩
end Go.Proofs.YtngaogfhijaaaaaGreat
