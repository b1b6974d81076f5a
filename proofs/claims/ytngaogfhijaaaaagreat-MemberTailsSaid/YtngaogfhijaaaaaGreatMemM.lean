/- What is proved here: member.Members: the operators that are in a set, in a slice of their own. Its conditions: numbers below 2^63, sizes. -/
import Derived.Test.YtngaogfhijaaaaaGreatMemE
namespace Go.Proofs.YtngaogfhijaaaaaGreat
open Go.RowKit Go.Shelf

attribute [local go_sem] Oper.semAt_some

/-- The numbers of those that are in. -/
def pickIn (l : List (Int × Nat × Nat)) : List Int := (l.filter fun x => x.2.1 == 1).map (·.1)
def memL (a n : Int) (s : St) : List Int := if sThere s a n then pickIn (memE a n s) else []

theorem pickIn_hit (l : List (Int × Nat × Nat)) (x : Int × Nat × Nat) (h : x.2.1 = 1) : pickIn (l ++ [x]) = pickIn l ++ [x.1] := by
  simp only [pickIn, List.filter_append, List.map_append]
  simp [h]
theorem pickIn_miss (l : List (Int × Nat × Nat)) (x : Int × Nat × Nat) (h : x.2.1 ≠ 1) : pickIn (l ++ [x]) = pickIn l := by
  simp only [pickIn, List.filter_append, List.map_append]
  simp [h]
theorem pickIn_len (l : List (Int × Nat × Nat)) : (pickIn l).length ≤ l.length := by
  unfold pickIn; rw [List.length_map]; exact List.length_filter_le _ _

theorem rows_stops (Bs Ba Bn n₀ : Nat) (q : Option Addr) (a n : Int) (ha : a < 9223372036854775808) (hnn : n < 9223372036854775808) (s : St) (w : World)
    (hlen : s.ents.length < 1000000000000) (hkey : ∀ x ∈ s.ents, x.1.size < 1000000000000) (hS : ReadAt n₀ w q s) (hn : n₀ ≤ w.heap.size) (hBs : Boxed w Bs 25 (.pointer q)) (hBa : Boxed w Ba 3 (.int .i64 a)) (hBn : Boxed w Bn 3 (.int .i64 n)) :
    SeqStopsK Fence.wide 4 Tryz.prog 105 #[.pointer (some ⟨Bs, 0, none⟩), .pointer (some ⟨Ba, 0, none⟩), .pointer (some ⟨Bn, 0, none⟩)] (fun x : Int × Nat × Nat => #[Value.int .i64 x.1, .agg #[.int .i64 x.2.1, .int .i64 x.2.2]]) (KpR n₀) (fun ys => ys = memE a n s) (fun _ => True) 1000000000000 w := fun l J Jx W hb hJ _ hY h0 =>
  rows1_in l Bs Ba Bn n₀ q a n ha hnn s J Jx W hJ hlen hkey hY (hS.below (hb.mono hn)) (Nat.le_trans hn hb.size) ((hb.block Bs hBs.lt).trans hBs) ((hb.block Ba hBa.lt).trans hBa) ((hb.block Bn hBn.lt).trans hBn) h0

/-- The box of a round's row. -/
abbrev RowBox (W : World) (k : Nat) (x y : Nat) : Prop := W.heap[k]? = some (.cells #[.int .i64 x, .int .i64 y] 89 (0, 0))

theorem RowBox.own (x y : Nat) (c : Nat → Prop) : Go.Own (fun (_ : Unit) W => ∃ k, c k ∧ RowBox W k x y) := fun _ X Y row ⟨k, hc, hs⟩ hg hrow => by
  refine ⟨k, hc, ?_⟩
  show Y.heap[k]? = _
  rw [hg.block k (Array.getElem?_eq_some_iff.1 hs).1 (fun e => ?_)]
  · exact hs
  · obtain ⟨o, ho, hf⟩ := hrow k e.symm
    rw [show X.heap[k]? = _ from hs] at ho; cases ho; cases hf

set_option maxRecDepth 100000 in
set_option maxHeartbeats 2000000 in
theorem members_any (w : World) (b : Nat) (s : St) (L : List Nat) (f : Nat) (a n : Int) (ha : a < 9223372036854775808) (hnn : n < 9223372036854775808) (hR : SRep w b s L) (hf : s.Fit f) (hm : f < 10000000000) (hkey : ∀ x ∈ s.ents, x.1.size < 1000000000000) :
    Calls Tryz.prog 13 #[.pointer (some ⟨b, 0, none⟩), .int .i64 a, .int .i64 n] w fun e W' => ∃ v, e = .returned v ∧ W'.ownsRow w.heap.size 3 1 v (memL a n s).length ((memL a n s).map fun x => Value.int .i64 x) ∧ Below w.heap.size w W' := by
  have hlen : s.ents.length < 1000000000000 := by have := hf.size; unfold St.size at this; omega
  have HT : Hid (∀ w1, Below w.heap.size w w1 → Calls Tryz.prog 43 #[.pointer (some ⟨b, 0, none⟩), .int .i64 a, .int .i64 n] w1 fun e w2 => e = .returned (.bool (sThere s a n)) ∧ Below w1.heap.size w1 w2) := fun w1 h1 => sthere_any w1 b s L f a n ha (hR.below h1) hf (by omega)
  have hS : ReadAt w.heap.size w (some ⟨b, 0, none⟩) s := ReadAt.made hR hf (by omega)
  have HU : Hid (memL a n s = if sThere s a n then pickIn (memE a n s) else []) := rfl
  generalize memL a n s = ml at *
  generalize sThere s a n = there at *
  cases there with
  | false =>
    have hml : ml = [] := HU.out
    subst hml
    clear HU hS
    have hb0 : Below w.heap.size w (w.alloc (.cells #[.slice none 0 0] 36)) := (Below.refl _ w).alloc (Nat.le_refl _) _
    have HT0 := Lib.hid (HT.out _ hb0)
    clear HT hR hf hkey
    go_enter Tryz.func13, Tryz.ntmps13
    go_wp2_with fail
    refine HT0.out.mono ?_
    rintro e w1 ⟨rfl, h1⟩
    have hb1 := bl_then hb0 h1
    go_wp2_with fail
    go_ret
    exact ⟨_, rfl, World.ownsRow_nil _ _ _ _, hb1⟩
  | true =>
    have hml : ml = pickIn (memE a n s) := HU.out
    subst hml
    clear HU
    have hb0 : Below w.heap.size w (w.alloc (.cells #[.slice none 0 0] 36)) := (Below.refl _ w).alloc (Nat.le_refl _) _
    have bO := Boxed.new w 36 (.slice none 0 0)
    have HT0 := Lib.hid (HT.out _ hb0)
    clear HT hf
    refine (callsIn_wide (n := 5)).1 ?_
    refine callsIn_of_wp_marks Tryz.func13 rfl trivial ?_ rfl
    simp only [Tryz.ntmps13, List.size_toArray, List.length_cons, List.length_nil, Nat.reduceAdd, Nat.reduceSub, Array.replicate_succ, Array.replicate_zero, List.push_toArray, List.append_toArray, List.nil_append, List.cons_append]
    gi_wp2_with (refine ⟨trivial, ?_⟩; gi_at_call 43; refine (callsIn_wide.2 HT0.out).mono ?_; rintro e w1 ⟨rfl, h1⟩)
    have hb1 := bl_then hb0 h1
    have hS1 := hS.below hb1
    have bO1 : Boxed w1 w.heap.size 36 (.slice none 0 0) := (h1.block _ (by simp)).trans bO
    gi_wp2_with (refine ⟨trivial, ?_⟩; gi_at_call 44; refine (callsIn_wide.2 (rows_any (some ⟨b, 0, none⟩) a n _)).mono ?_; rintro e w' ⟨rfl, rfl⟩)
    have hB1 : Below w1.heap.size w1 (((w1.alloc (.cells #[.pointer (some ⟨b, 0, none⟩)] 25)).alloc (.cells #[.int .i64 a] 3)).alloc (.cells #[.int .i64 n] 3)) := (((Below.refl _ w1).alloc (Nat.le_refl _) _).alloc (by simp) _).alloc (by simp; omega) _
    have hsz := hb1.size
    have hB0 := hb1.trans (hB1.mono hsz)
    have bS := Boxed.new w1 25 (.pointer (some ⟨b, 0, none⟩))
    have bA := Boxed.new (w1.alloc (.cells #[.pointer (some ⟨b, 0, none⟩)] 25)) 3 (.int .i64 a)
    have bN := Boxed.new ((w1.alloc (.cells #[.pointer (some ⟨b, 0, none⟩)] 25)).alloc (.cells #[.int .i64 a] 3)) 3 (.int .i64 n)
    simp only [World.size_alloc] at bA bN
    refine wpIn_rangeFunc_ownH rfl (by decide) (gf := 105) (lb := #[.pointer (some ⟨w1.heap.size, 0, none⟩), .pointer (some ⟨w1.heap.size + 1, 0, none⟩), .pointer (some ⟨w1.heap.size + 1 + 1, 0, none⟩)]) rfl trivial (enters_of Tryz.func105 (by kernel_rfl) rfl)
      (rows_stops w1.heap.size (w1.heap.size + 1) (w1.heap.size + 1 + 1) w.heap.size (some ⟨b, 0, none⟩) a n ha hnn s _ hlen hkey (hS.below hB0) (by simp; omega) ((bS.alloc _).alloc _) (bA.alloc _) bN) KpR.trans (KpR.turn (by simp; omega)) (Below.refl _ _) (fun _ => rfl)
      (fun pre W => (∃ v, Boxed W w.heap.size 36 v ∧ W.ownsRow w.heap.size 3 1 v (pickIn pre).length ((pickIn pre).map fun x => Value.int .i64 x)) ∧ Below w.heap.size w W)
      (fun _ _ _ => False)
      (OwnFrom.and (Own.from (by
        have := holdsRow_own w.heap.size w.heap.size 36 3 1 (fun pre : List (Int × Nat × Nat) => (pickIn pre).length) (fun pre => (pickIn pre).map fun x => Value.int .i64 x) (fun _ _ => True)
        intro s A B row hs hg hr
        obtain ⟨v, h1, h2⟩ := hs
        obtain ⟨v, h1, h2, _⟩ := this s A B row ⟨v, h1, h2, trivial⟩ hg hr
        exact ⟨v, h1, h2⟩) _) (ownFrom_below (Nat.le_refl _) (by simp; omega)))
      (fun _ _ _ _ _ hs _ _ => hs)
      ⟨⟨_, ((bO1.alloc _).alloc _).alloc _, World.ownsRow_nil _ _ _ _⟩, hB0⟩
      (fun x a' W => ∃ k, a' = { tmps := #[.pointer (some ⟨b, 0, none⟩), .int .i64 a, .int .i64 n, undef, undef, undef, .slice none 0 0, .pointer (some ⟨w.heap.size, 0, none⟩), .int .i64 x.1, .pointer (some ⟨k, 0, none⟩), .pointer (some ⟨b, 0, none⟩), .int .i64 a, .int .i64 n, .bool true, .bool false, .pointer (some ⟨b, 0, none⟩), .int .i64 a, .int .i64 n, .func (.func 105) #[] #[.pointer (some ⟨w1.heap.size, 0, none⟩), .pointer (some ⟨w1.heap.size + 1, 0, none⟩), .pointer (some ⟨w1.heap.size + 1 + 1, 0, none⟩)], .int .i64 x.1, .agg #[.int .i64 x.2.1, .int .i64 x.2.2], undef, undef, undef, undef, undef, undef, undef, undef], defers := [] } ∧ RowBox W k x.2.1 x.2.2)
      (fun x a' => (RowBox.own _ _ _).from _) ?assign ?body ?done ?stop
    case assign =>
      intro l pre x W K hI hK
      gi_wp2
      obtain ⟨⟨v, hv, hrow⟩, hB⟩ := hI
      have hal := (Below.refl W.heap.size W).alloc (Nat.le_refl _) (.cells #[.int .i64 x.2.1, .int .i64 x.2.2] 89)
      refine hK _ _ ⟨by simp, fun k o _ hk _ => (Below.heap_alloc W _ k (Array.getElem?_eq_some_iff.1 hk).1).trans hk⟩ (KpR.of_below hal hB.size) ⟨⟨v, hv.alloc _, hrow.alloc _⟩, hB.trans (hal.mono hB.size)⟩ ⟨_, rfl, World.alloc_heap_new W _⟩
    case body =>
      rintro l pre x a' W _ _ ⟨⟨v, hv, hrow⟩, hB⟩ ⟨k, rfl, hk⟩ hlt
      have hc := hv.cell
      have hkc : W.cell? ⟨k, 0, none⟩ = some (.int .i64 x.2.1) := by rw [cell_of_row _ _ _ _ _ _ hk]; rfl
      have hpl := pickIn_len pre
      obtain ⟨i0, hi, hz0, hz1, hz2⟩ := info_parts eachInfo
      by_cases hx : x.2.1 = 1
      · have hd1 : ((x.2.1 : Int) == 1) = true := beq_iff_eq.2 (by omega)
        have hhit := pickIn_hit pre x hx
        gi_wp2_with (gi_at_builtin; refine wpListIn_append_own _ rfl _ _ 36 rfl w.heap.size 3 i0 (.int .i64 0) 1 8 Tryz.underlying36 hi hz0 hz1 hz2 rfl (by decide) _ _ _ rfl (hrow.alloc _) ⟨W.heap.size, 0, none⟩ 1 1 [.int .i64 x.1] rfl rfl (cell_one_new _ _ _) (by simp [Value.oneCell']) (by unfold maxLen; omega) (by omega) (by have := hB.size; simp; omega) ?_; intro v' w2 hown' hgrow _; obtain ⟨g', cap', rfl⟩ := ownsRow_succ hown'; obtain ⟨hv1, hv2, hr2, hk2, hb2⟩ := hv.appended (by decide) hrow hB.size (Nat.le_refl _) hown' hgrow; have hkp := KpR.appended hb2 hv hrow hgrow; have hc1 := hv1.cell; have hf1 := hv1.frozen)
        exact ⟨hk2.from _, hkp, ⟨_, hv2, by rw [hhit]; simpa using hr2⟩, hB.trans hb2⟩
      · have hd1 : ((x.2.1 : Int) == 1) = false := beq_eq_false_iff_ne.2 (by omega)
        have hmiss := pickIn_miss pre x hx
        gi_wp2
        exact ⟨KeepsFrom.refl _ _, KpR.refl _ _, ⟨v, hv, by rw [hmiss]; exact hrow⟩, hB⟩
    case done =>
      rintro D ys W hD rfl ⟨⟨v, hv, hrow⟩, hB⟩ hK
      have hc := hv.cell
      gi_wp2
      refine ⟨by simp, .inl ⟨_, _, rfl, run_takeDeferred hK, ?_⟩⟩
      exact ⟨_, results_tmp rfl _ _ _, v, rfl, ownsRow_putObj hrow _ hK rfl, hB.trans (belowK_b (w := w) (Nat.le_refl _) W D _ _ (by simp at hD; omega) hK rfl rfl)⟩
    case stop =>
      rintro D c pre W _ _ h _
      exact h.elim
end Go.Proofs.YtngaogfhijaaaaaGreat
