/- What is proved here: due.Add at a block where nothing is due, into a count of nought. Its conditions: sizes. -/
import Derived.Test.YtngaogfhijaaaaaGreatDue
namespace Go.Proofs.YtngaogfhijaaaaaGreat
open Go.RowKit Go.Shelf

attribute [local go_sem] Oper.semAt_some

set_option maxRecDepth 100000 in
set_option maxHeartbeats 4000000 in
theorem dueAdd_new (w : World) (b : Nat) (s : St) (L : List Nat) (f bl g c : Nat) (l : List Int) (h : SRep w b s L) (hf : s.Fit f) (hm : f < 10000000000) (hbl : bl ≤ 1099511627776) (hl0 : 0 < l.length) (hl : l.length < 100000) (hp : ∀ n ∈ l, 0 ≤ n ∧ n < 9223372036854775808) (hg : LieAt w g l)
    (hU : underE (keyL 26 [(bl : Int)]) s.ents = []) (h27 : (s.put (keyL 26 [(bl : Int), 0]) (rowB l)).int K27 = 0) :
    Calls Tryz.prog 151 #[.pointer (some ⟨b, 0, none⟩), .int .i64 bl, .slice (some ⟨g, 0, none⟩) l.length c] w (RetSt w b L (.int .i64 0) ((s.put (keyL 26 [(bl : Int), 0]) (rowB l)).setInt K27 1)) := by
  have hz : s.size < 1000000000000 := Nat.lt_of_le_of_lt hf.size (by omega)
  have HM := Lib.hid (made_at w b true h.cell0)
  have HG := Lib.hid (fgood_yes w g c l hl0 (by omega) hg (fun n hn => (hp n hn).1))
  have HK : Hid (∀ w1, Below w.heap.size w w1 → Calls Tryz.prog 75 #[.int .i64 26, .slice (some ⟨w1.heap.size, 0, none⟩) 1 1] (w1.alloc (.cells #[.int .i64 bl] 3)) fun e w2 => e = .returned (.string (keyL 26 [(bl : Int)])) ∧ Below w1.heap.size w1 w2) := fun w1 _ =>
    (key_any 26 (by decide) (by decide) _ [(bl : Int)] _ (intsAt_cells (g := w1.heap.size) (l := [(bl : Int)]) fun j z hj => by
      rw [cell_of_row _ _ _ _ _ _ (heap_alloc_new w1 (.cells #[.int .i64 bl] 3))]
      match j, hj with
      | 0, hj => cases hj; rfl) (by simp) (fun m hm => by rw [List.mem_singleton.1 hm]; omega)).mono fun e w2 ⟨he, hb⟩ => ⟨he, bl_then (bl_alloc (Below.refl _ w1) _) hb⟩
  have HST : Hid (∀ w1, Below w.heap.size w w1 → SeqStopsK Fence.wide 4 Tryz.prog 176 #[.pointer (some ⟨w1.heap.size, 0, none⟩), .pointer (some ⟨w1.heap.size + 1, 0, none⟩)] (fun x : (Int × Int) × Value => #[.agg #[.int .i64 x.1.1, .int .i64 x.1.2], x.2]) (KpR w1.heap.size) (fun ys => ys = []) (fun _ => True) 0
      ((w1.alloc (.cells #[.pointer (some ⟨b, 0, none⟩)] 25)).alloc (.cells #[.string (keyL 26 [(bl : Int)])] 9))) := fun w1 hb => dall_stops w1 b s L _ (h.below hb) hz hU
  have HE : Hid (∀ W D, Below w.heap.size w W → w.heap.size ≤ D → W.heap[D]? = some (.deferred (some [])) → DueEnd b bl g c l (fun w5 => w5.heap[D]? = some (.deferred (some [])) ∧ RetSt w b L (.int .i64 0) ((s.put (keyL 26 [(bl : Int), 0]) (rowB l)).setInt K27 1) (.returned (.int .i64 0)) (w5.putObj D (.deferred none))) W) := fun W D hW hD hK => due_end h hf hm hbl hl0 hl hp hg h27 hW hD hK
  have hd1 : decide ((bl : Int) < 0) = false := decide_eq_false (by omega)
  have hd2 : decide ((1099511627776 : Int) < (bl : Int)) = false := decide_eq_false (by omega)
  unfold DueEnd at HE
  clear h hf hp hg hU h27 hz
  generalize RetSt w b L (.int .i64 0) ((s.put (keyL 26 [(bl : Int), 0]) (rowB l)).setInt K27 1) = R at *
  generalize keyL 26 [(bl : Int)] = kp at *
  generalize keyL 26 [(bl : Int), 0] = kk at *
  generalize K27 = k27 at *
  generalize l.length = m at *
  refine (callsIn_wide (n := 5)).1 ?_
  refine callsIn_of_wp_marks Tryz.func151 rfl trivial ?_ rfl
  simp only [Tryz.ntmps151, List.size_toArray, List.length_cons, List.length_nil, Nat.reduceAdd, Nat.reduceSub, Array.replicate_succ, Array.replicate_zero, List.push_toArray, List.append_toArray, List.nil_append, List.cons_append]
  have hb0 := bl_alloc (Below.refl _ w) (.cells #[.int .i64 0] 3)
  have HK1 : Hid (Calls Tryz.prog 75 #[.int .i64 26, .slice (some ⟨w.heap.size + 1, 0, none⟩) 1 1] ((w.alloc (.cells #[.int .i64 0] 3)).alloc (.cells #[.int .i64 bl] 3)) fun e w2 => e = .returned (.string kp) ∧ Below (w.alloc (.cells #[.int .i64 0] 3)).heap.size (w.alloc (.cells #[.int .i64 0] 3)) w2) := by
    have h1 := HK.out _ hb0
    rw [show (w.alloc (.cells #[.int .i64 0] 3)).heap.size = w.heap.size + 1 from World.size_alloc ..] at h1 ⊢
    exact h1
  have bN := Boxed.new w 3 (.int .i64 0)
  gi_wp2_with (first
    | (refine ⟨trivial, ?_⟩; gi_at_call 45; refine (callsIn_wide.2 HM.out).mono ?_; rintro e w' ⟨rfl, rfl⟩)
    | (refine ⟨trivial, ?_⟩; gi_at_call 152; refine (callsIn_wide.2 HG.out).mono ?_; rintro e w' ⟨rfl, rfl⟩)
    | (refine ⟨trivial, ?_⟩; gi_at_call 75; refine (callsIn_wide.2 HK1.out).mono ?_; rintro e w0 ⟨rfl, hb1⟩)
    | (refine ⟨trivial, ?_⟩; gi_at_call 165; refine (callsIn_wide.2 (dall_any (some ⟨b, 0, none⟩) kp w0)).mono ?_; rintro e w' ⟨rfl, rfl⟩))
  have hb2 := bl_then hb0 hb1
  have bN0 : Boxed w0 w.heap.size 3 (.int .i64 0) := (hb1.block _ (by simp)).trans bN
  have hs0 := hb2.size
  refine wpIn_rangeFunc_ownH rfl (by decide) (gf := 176) (lb := #[.pointer (some ⟨w0.heap.size, 0, none⟩), .pointer (some ⟨w0.heap.size + 1, 0, none⟩)]) rfl trivial (enters_of Tryz.func176 (by kernel_rfl) rfl)
    (HST.out w0 hb2) KpR.trans (KpR.turn (by simp; omega)) (Below.refl _ _) (fun _ => rfl)
    (fun pre W => pre = [] ∧ Below w0.heap.size w0 W) (fun _ _ _ => False)
    (OwnFrom.and (fun _ _ _ _ hs _ _ => hs) (ownFrom_below (Nat.le_refl _) (by simp; omega))) (fun _ _ _ _ _ hs _ _ => hs)
    ⟨rfl, bl_alloc (bl_alloc (Below.refl _ w0) _) _⟩
    (fun _ _ _ => True) (fun _ _ _ _ _ _ _ _ _ => trivial) ?assign ?body ?done ?stop
  case stop => rintro D c pre W _ _ h _; exact h.elim
  case body => rintro l pre x a' W _ _ _ _ hlt; exact absurd hlt (Nat.not_lt_zero _)
  case assign =>
    intro l pre x W K hI hK
    obtain ⟨hp, hB⟩ := hI
    gi_wp2
    have hal := (Below.refl W.heap.size W).alloc (Nat.le_refl _) (.cells #[.int .i64 x.1.1, .int .i64 x.1.2] 210)
    exact hK _ _ ⟨by simp, fun k o _ hk _ => (Below.heap_alloc W _ k (Array.getElem?_eq_some_iff.1 hk).1).trans hk⟩ (KpR.of_below hal hB.size) ⟨hp, hB.trans (hal.mono hB.size)⟩ trivial
  case done =>
    rintro D ys W hD - ⟨rfl, hB⟩ hK
    have hNc : W.cell? ⟨w.heap.size, 0, none⟩ = some (.int .i64 0) := bl_cell hB bN0.cell
    have hD' : w.heap.size ≤ D := by simp only [World.size_alloc] at hD; omega
    have HQ := Lib.hid (HE.out W D (bl_then hb2 hB) hD' hK)
    clear hK HE HST HK HM HG bN bN0
    gi_wp2_with (first
      | (refine ⟨trivial, ?_⟩; gi_at_call 166; refine (callsIn_wide.2 HQ.out).mono ?_; rintro e w1 ⟨rfl, hQ1⟩; have HQ1 := Lib.hid hQ1; clear hQ1)
      | (refine ⟨trivial, ?_⟩; gi_at_call 47; refine (callsIn_wide.2 HQ1.out).mono ?_; rintro e w2 ⟨rfl, hQ2⟩; have HQ2 := Lib.hid hQ2; clear hQ2)
      | (refine ⟨trivial, ?_⟩; gi_at_call 75; refine (callsIn_wide.2 HQ2.out).mono ?_; rintro e w3 ⟨rfl, hQ3⟩; have HQ3 := Lib.hid hQ3; clear hQ3)
      | (refine ⟨trivial, ?_⟩; gi_at_call 167; refine (callsIn_wide.2 HQ3.out).mono ?_; rintro e w4 ⟨rfl, hQ4⟩; have HQ4 := Lib.hid hQ4; clear hQ4)
      | (refine ⟨trivial, ?_⟩; gi_at_call 87; refine (callsIn_wide.2 HQ4.out).mono ?_; rintro e w5 ⟨rfl, hK5, hR⟩))
    refine ⟨by simp, .inl ⟨_, _, rfl, run_takeDeferred hK5, ?_⟩⟩
    refine ⟨_, results_tmp (t := 6) rfl _ _ _, ?_⟩
    exact hR
end Go.Proofs.YtngaogfhijaaaaaGreat
