/- What is proved here: roster.Operators and roster.Stakers: the numbers that each hands on, in a slice of their own. Their conditions: sizes. -/
import Derived.Test.YtbljaikifgpflaaEachB
namespace Go.Proofs.Ytbljaikifgpflaa
open Go.RowKit Go.Shelf

attribute [local go_sem] Oper.semAt_some

theorem each_stops (Bs Bt n₀ : Nat) (q : Option Addr) (t : Nat) (ht1 : 1 ≤ t) (ht2 : t ≤ 255) (s : St) (w : World)
    (hlen : s.ents.length < 1000000000000) (hkey : ∀ x ∈ s.ents, x.1.size < 1000000000000) (hS : ReadAt n₀ w q s) (hn : n₀ ≤ w.heap.size) (hBs : Boxed w Bs 24 (.pointer q)) (hBt : Boxed w Bt 3 (.int .i64 t)) :
    SeqStopsK Fence.wide 4 Try.prog 41 #[.pointer (some ⟨Bs, 0, none⟩), .pointer (some ⟨Bt, 0, none⟩)] (fun x : Int × Int => #[Value.int .i64 x.1, .int .i64 x.2]) (KpR n₀) (fun ys => ys = eachE t s) (fun _ => True) 1000000000000 w := fun l J Jx W hb hJ _ hY h0 =>
  each1_in l Bs Bt n₀ q t ht1 ht2 s J Jx W hJ hlen hkey hY (hS.below (hb.mono hn)) (Nat.le_trans hn hb.size) ((hb.block Bs hBs.lt).trans hBs) ((hb.block Bt hBt.lt).trans hBt) h0

theorem eachInfo : (Try.prog.info? 3).map (fun i => (i.zero, i.size, i.bytes)) = some (some (.int .i64 0), 1, 8) := by kernel_rfl

/-- An append in a body keeps each row of another type. -/
theorem KpR.appended {W w1 : World} {n₀ B : Nat} {v v' : Value} {k : Nat} {xs : List Value} {tmp : Obj} (hB2 : Below n₀ W (w1.setCell ⟨B, 0, none⟩ v'))
    (hv : Boxed W B 34 v) (hrow : W.ownsRow n₀ 3 1 v k xs) (hgrow : (W.alloc tmp).grownBy w1 v.ownBlock) : KpR n₀ W (w1.setCell ⟨B, 0, none⟩ v') := by
  refine ⟨hB2, fun j cs t f hj h1 h2 => ?_⟩
  have hlt : j < W.heap.size := (Array.getElem?_eq_some_iff.1 hj).1
  have hjB : j ≠ B := fun e => by
    subst e
    have := (show W.heap[j]? = _ from hv).symm.trans hj
    simp at this
    exact h2 this.2.1.symm
  have hjo : some j ≠ v.ownBlock := by
    rcases hrow.2 with ⟨rfl, _⟩ | ⟨g, cap, cur, rfl, _, hg, _⟩
    · simp [Value.ownBlock]
    · intro e
      obtain rfl : j = g := by simpa [Value.ownBlock] using e
      have := hg.symm.trans hj
      simp at this
      exact h1 this.2.1.symm
  rw [Below.heap_setCell _ _ _ _ hjB, hgrow.block j (by simp; omega) hjo]
  exact Below.heap_alloc W _ j hlt

set_option maxRecDepth 100000 in
set_option maxHeartbeats 1000000 in
theorem operators_any (w : World) (q : Option Addr) (s : St) (hS : ReadAt w.heap.size w q s) (hlen : s.ents.length < 1000000000000) (hkey : ∀ x ∈ s.ents, x.1.size < 1000000000000) :
    Calls Try.prog 9 #[.pointer q] w fun e W' => ∃ v, e = .returned v ∧ W'.ownsRow w.heap.size 3 1 v (eachE 8 s).length ((eachE 8 s).map fun x => Value.int .i64 x.1) ∧ Below w.heap.size w W' := by
  refine (callsIn_wide (n := 5)).1 ?_
  refine callsIn_of_wp_marks Try.func9 rfl trivial ?_ rfl
  simp only [Try.ntmps9, List.size_toArray, List.length_cons, List.length_nil, Nat.reduceAdd, Nat.reduceSub, Array.replicate_succ, Array.replicate_zero, List.push_toArray, List.append_toArray, List.nil_append, List.cons_append]
  gi_wp2_with (refine ⟨trivial, ?_⟩; gi_at_call 26; refine (callsIn_wide.2 (each_any q 8 _)).mono ?_; rintro e w' ⟨rfl, rfl⟩)
  have bO := Boxed.new w 34 (.slice none 0 0)
  have bS := Boxed.new (w.alloc (.cells #[.slice none 0 0] 34)) 24 (.pointer q)
  have bT := Boxed.new ((w.alloc (.cells #[.slice none 0 0] 34)).alloc (.cells #[.pointer q] 24)) 3 (.int .i64 8)
  simp only [World.size_alloc] at bS bT
  have hB0 : Below w.heap.size w (((w.alloc (.cells #[.slice none 0 0] 34)).alloc (.cells #[.pointer q] 24)).alloc (.cells #[.int .i64 8] 3)) := (((Below.refl _ w).alloc (Nat.le_refl _) _).alloc (by simp) _).alloc (by simp; omega) _
  refine wpIn_rangeFunc_ownG rfl (by decide) (gf := 41) (lb := #[.pointer (some ⟨w.heap.size + 1, 0, none⟩), .pointer (some ⟨w.heap.size + 1 + 1, 0, none⟩)]) rfl trivial (enters_of Try.func41 (by kernel_rfl) rfl)
    (each_stops (w.heap.size + 1) (w.heap.size + 1 + 1) w.heap.size q 8 (by decide) (by decide) s _ hlen hkey (hS.below hB0) (by simp; omega) (bS.alloc _) bT) KpR.trans (KpR.turn (by simp; omega)) (Below.refl _ _) (fun _ => rfl)
    (fun pre W => (∃ v, Boxed W w.heap.size 34 v ∧ W.ownsRow w.heap.size 3 1 v pre.length (pre.map fun x => Value.int .i64 x.1)) ∧ Below w.heap.size w W)
    (fun _ _ _ => False)
    (OwnFrom.and (Own.from (by
      have := holdsRow_own w.heap.size w.heap.size 34 3 1 (fun pre : List (Int × Int) => pre.length) (fun pre => pre.map fun x => Value.int .i64 x.1) (fun _ _ => True)
      intro s A B row hs hg hr
      obtain ⟨v, h1, h2⟩ := hs
      obtain ⟨v, h1, h2, _⟩ := this s A B row ⟨v, h1, h2, trivial⟩ hg hr
      exact ⟨v, h1, h2⟩) _) (ownFrom_below (Nat.le_refl _) (by simp; omega)))
    (fun _ _ _ _ _ hs _ _ => hs)
    ⟨⟨_, (bO.alloc _).alloc _, World.ownsRow_nil _ _ _ _⟩, hB0⟩
    (fun x => { tmps := #[.pointer q, undef, .slice none 0 0, .pointer (some ⟨w.heap.size, 0, none⟩), .int .i64 x.1, .pointer q, .func (.func 41) #[] #[.pointer (some ⟨w.heap.size + 1, 0, none⟩), .pointer (some ⟨w.heap.size + 1 + 1, 0, none⟩)], .int .i64 x.1, .int .i64 x.2, undef, undef, undef, undef, undef], defers := [] }) ?assign ?body ?done ?stop
  case assign =>
    intro l x W K hK
    gi_wp2
    exact hK
  case body =>
    rintro l pre x W ⟨⟨v, hv, hrow⟩, hB⟩ hlt
    have hc := hv.cell
    obtain ⟨i0, hi, hz0, hz1, hz2⟩ := info_parts eachInfo
    gi_wp2_with (gi_at_builtin; refine wpListIn_append_own _ rfl _ _ 34 rfl w.heap.size 3 i0 (.int .i64 0) 1 8 Try.underlying34 hi hz0 hz1 hz2 rfl (by decide) _ _ _ rfl (hrow.alloc _) ⟨W.heap.size, 0, none⟩ 1 1 [.int .i64 x.1] rfl rfl (cell_one_new _ _ _) (by simp [Value.oneCell']) (by unfold maxLen; omega) (by omega) (by have := hB.size; simp; omega) ?_; intro v' w1 hown' hgrow _; obtain ⟨g', cap', rfl⟩ := ownsRow_succ hown'; obtain ⟨hv1, hv2, hr2, hk2, hb2⟩ := hv.appended (by decide) hrow hB.size (Nat.le_refl _) hown' hgrow; have hkp := KpR.appended hb2 hv hrow hgrow; have hc1 := hv1.cell; have hf1 := hv1.frozen)
    exact ⟨hk2.from _, hkp, ⟨_, hv2, by simpa using hr2⟩, hB.trans hb2⟩
  case done =>
    rintro D ys W hD rfl ⟨⟨v, hv, hrow⟩, hB⟩ hK
    have hc := hv.cell
    gi_wp2
    refine ⟨by simp, .inl ⟨_, _, rfl, run_takeDeferred hK, ?_⟩⟩
    exact ⟨_, results_tmp rfl _ _ _, v, rfl, ownsRow_putObj hrow _ hK rfl, hB.trans (belowK_b (w := w) (Nat.le_refl _) W D _ _ (by simp at hD; omega) hK rfl rfl)⟩
  case stop =>
    rintro D c pre W _ _ h _
    exact h.elim

/-- Whom an operator has, of what each hands on. -/
def withE (o : Int) (l : List (Int × Int)) : List Int := (l.filter fun x => x.2 == o && decide (0 < o)).map (·.1)
theorem withE_hit (o : Int) (l : List (Int × Int)) (x : Int × Int) (h : x.2 = o) (h0 : 0 < o) : withE o (l ++ [x]) = withE o l ++ [x.1] := by
  subst h
  simp only [withE, List.filter_append, List.map_append]
  simp [h0]
theorem withE_miss (o : Int) (l : List (Int × Int)) (x : Int × Int) (h : ¬(x.2 = o ∧ 0 < o)) : withE o (l ++ [x]) = withE o l := by
  simp only [withE, List.filter_append, List.map_append]
  have : (x.2 == o && decide (0 < o)) = false := by
    rw [Bool.and_eq_false_iff, beq_eq_false_iff_ne, decide_eq_false_iff_not]
    by_cases h1 : x.2 = o
    · exact .inr fun h2 => h ⟨h1, h2⟩
    · exact .inl h1
  simp [this]
theorem withE_len (o : Int) (l : List (Int × Int)) : (withE o l).length ≤ l.length := by
  unfold withE; rw [List.length_map]; exact List.length_filter_le _ _

set_option maxRecDepth 100000 in
set_option maxHeartbeats 1000000 in
theorem stakers_any (w : World) (q : Option Addr) (o : Int) (s : St) (hS : ReadAt w.heap.size w q s) (hlen : s.ents.length < 1000000000000) (hkey : ∀ x ∈ s.ents, x.1.size < 1000000000000) :
    Calls Try.prog 12 #[.pointer q, .int .i64 o] w fun e W' => ∃ v, e = .returned v ∧ W'.ownsRow w.heap.size 3 1 v (withE o (eachE 9 s)).length ((withE o (eachE 9 s)).map fun x => Value.int .i64 x) ∧ Below w.heap.size w W' := by
  refine (callsIn_wide (n := 5)).1 ?_
  refine callsIn_of_wp_marks Try.func12 rfl trivial ?_ rfl
  simp only [Try.ntmps12, List.size_toArray, List.length_cons, List.length_nil, Nat.reduceAdd, Nat.reduceSub, Array.replicate_succ, Array.replicate_zero, List.push_toArray, List.append_toArray, List.nil_append, List.cons_append]
  gi_wp2_with (refine ⟨trivial, ?_⟩; gi_at_call 26; refine (callsIn_wide.2 (each_any q 9 _)).mono ?_; rintro e w' ⟨rfl, rfl⟩)
  have bI := Boxed.new w 3 (.int .i64 o)
  have hb1 : Below w.heap.size w (w.alloc (.cells #[.int .i64 o] 3)) := (Below.refl _ w).alloc (Nat.le_refl _) _
  have hz : (w.alloc (.cells #[.int .i64 o] 3)).heap.size = w.heap.size + 1 := by simp
  have hS1 : ReadAt (w.alloc (.cells #[.int .i64 o] 3)).heap.size (w.alloc (.cells #[.int .i64 o] 3)) q s := (hS.below hb1).up (by rw [hz]; omega)
  generalize w.alloc (.cells #[.int .i64 o] 3) = w1 at *
  have bO := Boxed.new w1 34 (.slice none 0 0)
  have bS := Boxed.new (w1.alloc (.cells #[.slice none 0 0] 34)) 24 (.pointer q)
  have bT := Boxed.new ((w1.alloc (.cells #[.slice none 0 0] 34)).alloc (.cells #[.pointer q] 24)) 3 (.int .i64 9)
  simp only [World.size_alloc] at bS bT
  have hB0 : Below w1.heap.size w1 (((w1.alloc (.cells #[.slice none 0 0] 34)).alloc (.cells #[.pointer q] 24)).alloc (.cells #[.int .i64 9] 3)) := (((Below.refl _ w1).alloc (Nat.le_refl _) _).alloc (by simp) _).alloc (by simp; omega) _
  rw [← hz]
  have hoB : w.heap.size < w1.heap.size := by omega
  clear hz
  refine wpIn_rangeFunc_ownG rfl (by decide) (gf := 41) (lb := #[.pointer (some ⟨w1.heap.size + 1, 0, none⟩), .pointer (some ⟨w1.heap.size + 1 + 1, 0, none⟩)]) rfl trivial (enters_of Try.func41 (by kernel_rfl) rfl)
    (each_stops (w1.heap.size + 1) (w1.heap.size + 1 + 1) w1.heap.size q 9 (by decide) (by decide) s _ hlen hkey (hS1.below hB0) (by simp; omega) (bS.alloc _) bT) KpR.trans (KpR.turn (by simp; omega)) (Below.refl _ _) (fun _ => rfl)
    (fun pre W => (∃ v, Boxed W w1.heap.size 34 v ∧ W.ownsRow w1.heap.size 3 1 v (withE o pre).length ((withE o pre).map fun x => Value.int .i64 x)) ∧ Below w1.heap.size w1 W)
    (fun _ _ _ => False)
    (OwnFrom.and (Own.from (by
      have := holdsRow_own w1.heap.size w1.heap.size 34 3 1 (fun pre : List (Int × Int) => (withE o pre).length) (fun pre => (withE o pre).map fun x => Value.int .i64 x) (fun _ _ => True)
      intro s A B row hs hg hr
      obtain ⟨v, h1, h2⟩ := hs
      obtain ⟨v, h1, h2, _⟩ := this s A B row ⟨v, h1, h2, trivial⟩ hg hr
      exact ⟨v, h1, h2⟩) _) (ownFrom_below (Nat.le_refl _) (by simp; omega)))
    (fun _ _ _ _ _ hs _ _ => hs)
    ⟨⟨_, (bO.alloc _).alloc _, World.ownsRow_nil _ _ _ _⟩, hB0⟩
    (fun x => { tmps := #[.pointer q, .int .i64 o, undef, .pointer (some ⟨w.heap.size, 0, none⟩), .slice none 0 0, .pointer (some ⟨w1.heap.size, 0, none⟩), .int .i64 x.1, .int .i64 x.2, .pointer q, .func (.func 41) #[] #[.pointer (some ⟨w1.heap.size + 1, 0, none⟩), .pointer (some ⟨w1.heap.size + 1 + 1, 0, none⟩)], .int .i64 x.1, .int .i64 x.2, undef, undef, undef, undef, undef, undef, undef, undef, undef, undef, undef, undef], defers := [] }) ?assign ?body ?done ?stop
  case assign =>
    intro l x W K hK
    gi_wp2
    exact hK
  case body =>
    rintro l pre x W ⟨⟨v, hv, hrow⟩, hB⟩ hlt
    have hc := hv.cell
    have hoc : W.cell? ⟨w.heap.size, 0, none⟩ = some (.int .i64 o) := (hB.cell (p := ⟨w.heap.size, 0, none⟩) hoB).trans bI.cell
    have hwl := withE_len o pre
    obtain ⟨i0, hi, hz0, hz1, hz2⟩ := info_parts eachInfo
    by_cases hx : x.2 = o ∧ 0 < o
    · have hd1 : (x.2 == o) = true := beq_iff_eq.2 hx.1
      have hd2 : decide (0 < o) = true := decide_eq_true hx.2
      have hhit := withE_hit o pre x hx.1 hx.2
      gi_wp2_with (gi_at_builtin; refine wpListIn_append_own _ rfl _ _ 34 rfl w1.heap.size 3 i0 (.int .i64 0) 1 8 Try.underlying34 hi hz0 hz1 hz2 rfl (by decide) _ _ _ rfl (hrow.alloc _) ⟨W.heap.size, 0, none⟩ 1 1 [.int .i64 x.1] rfl rfl (cell_one_new _ _ _) (by simp [Value.oneCell']) (by unfold maxLen; omega) (by omega) (by have := hB.size; simp; omega) ?_; intro v' w2 hown' hgrow _; obtain ⟨g', cap', rfl⟩ := ownsRow_succ hown'; obtain ⟨hv1, hv2, hr2, hk2, hb2⟩ := hv.appended (by decide) hrow hB.size (Nat.le_refl _) hown' hgrow; have hkp := KpR.appended hb2 hv hrow hgrow; have hc1 := hv1.cell; have hf1 := hv1.frozen)
      exact ⟨hk2.from _, hkp, ⟨_, hv2, by rw [hhit]; simpa using hr2⟩, hB.trans hb2⟩
    · have hmiss := withE_miss o pre x hx
      by_cases hx2 : x.2 = o
      · have hd1 : (x.2 == o) = true := beq_iff_eq.2 hx2
        have hd2 : decide (0 < o) = false := decide_eq_false fun h => hx ⟨hx2, h⟩
        gi_wp2
        exact ⟨KeepsFrom.refl _ _, KpR.refl _ _, ⟨v, hv, by rw [hmiss]; exact hrow⟩, hB⟩
      · have hd1 : (x.2 == o) = false := beq_eq_false_iff_ne.2 hx2
        gi_wp2
        exact ⟨KeepsFrom.refl _ _, KpR.refl _ _, ⟨v, hv, by rw [hmiss]; exact hrow⟩, hB⟩
  case done =>
    rintro D ys W hD rfl ⟨⟨v, hv, hrow⟩, hB⟩ hK
    have hc := hv.cell
    gi_wp2
    refine ⟨by simp, .inl ⟨_, _, rfl, run_takeDeferred hK, ?_⟩⟩
    have hrow' : W.ownsRow w.heap.size 3 1 v (withE o (eachE 9 s)).length ((withE o (eachE 9 s)).map fun x => Value.int .i64 x) := by
      refine ⟨hrow.1, ?_⟩
      rcases hrow.2 with h0 | ⟨g, cap, cur, h1, h2, h3⟩
      · exact .inl h0
      · exact .inr ⟨g, cap, cur, h1, by omega, h3⟩
    exact ⟨_, results_tmp rfl _ _ _, v, rfl, ownsRow_putObj hrow' _ hK rfl, (hb1.trans (hB.mono (by omega))).trans ((belowK_b (w := w1) (Nat.le_refl _) W D _ _ (by simp at hD; omega) hK rfl rfl).mono (by omega))⟩
  case stop =>
    rintro D c pre W _ _ h _
    exact h.elim
end Go.Proofs.Ytbljaikifgpflaa
