/- What is proved here: service.New of a set of one strategy that is there. Its conditions: a service with fewer than 16 sets, sizes. -/
import Derived.Test.YtnblhjndngpbnaaGreatServ5
namespace Go.Proofs.YtnblhjndngpbnaaGreat
open Go.RowKit

/-- The store behind Next: its blocks are none of those that lay before, nor of those that are laid behind. -/
def Fin (w : World) (b : Nat) (s1 : St) (L : List Nat) (N M : Nat) (W : World) : Prop := M ≤ W.heap.size ∧ ∃ L', SRep W b s1 L' ∧ Step w L W L' ∧ ∀ q, w.heap.size ≤ q → (q < N ∨ M ≤ q) → q ∉ L'

theorem Fin.alloc {w W : World} {b : Nat} {s1 : St} {L : List Nat} {N M : Nat} (h : Fin w b s1 L N M W) (o : Obj) : Fin w b s1 L N M (W.alloc o) := by
  obtain ⟨h0, L', h1, h2, h3⟩ := h
  refine ⟨by simp; omega, L', h1.alloc o, h2.trans ⟨(Fr.refl _ _).alloc o, fun k hk => .inl hk⟩, h3⟩
theorem Fin.drew {w W : World} {b : Nat} {s1 : St} {L : List Nat} {N M : Nat} (h : Fin w b s1 L N M W) : Fin w b s1 L N M W.drew := by
  obtain ⟨h0, L', h1, h2, h3⟩ := h
  exact ⟨h0, L', h1.below (bl_drew (Below.refl _ _)), h2.trans ⟨Fr.of_below (bl_drew (Below.refl _ _)) _, fun k hk => .inl hk⟩, h3⟩
theorem Fin.set {w W : World} {b : Nat} {s1 : St} {L : List Nat} {N M : Nat} (h : Fin w b s1 L N M W) {q i : Nat} (v : Value) (hq : w.heap.size ≤ q) (hq2 : q < N ∨ M ≤ q) : Fin w b s1 L N M (W.setCell ⟨q, i, none⟩ v) := by
  obtain ⟨h0, L', h1, h2, h3⟩ := h
  have hne : ∀ k ∈ L', k ≠ q := fun k hk e => h3 q hq hq2 (e ▸ hk)
  have hlt := h1.lt
  have hfr : Fr (fun k => k = q) W (W.setCell ⟨q, i, none⟩ v) := (Fr.refl _ W).setCell _ _ (.inr rfl)
  refine ⟨Nat.le_trans h0 hfr.size, L', h1.frame fun k hk => Below.heap_setCell _ _ _ _ (hne k hk), ⟨?_, fun k hk => h2.own k hk⟩, h3⟩
  exact ⟨hfr.os.trans h2.fr.os, hfr.tape.trans h2.fr.tape, hfr.output.trans h2.fr.output, Nat.le_trans h2.fr.size hfr.size, fun k hk hm => by
    rw [Below.heap_setCell _ _ _ _ (by show k ≠ q; omega)]; exact h2.fr.block k hk hm⟩

theorem bl_frozen {W W' : World} (hb : Below W.heap.size W W') {q i : Nat} (hq : q < W.heap.size) (h : W.frozen? ⟨q, i, none⟩ = false) : W'.frozen? ⟨q, i, none⟩ = false := by
  unfold World.frozen? at h ⊢
  rw [hb.block q hq]; exact h
theorem new_cell (W : World) (cs : Array Value) (t : TypeId) (q i : Nat) (v : Value) (hq : q = W.heap.size) (h : cs[i]? = some v) : (W.alloc (.cells cs t)).cell? ⟨q, i, none⟩ = some v := by
  subst hq; rw [cell_of_row _ _ _ _ _ _ (heap_alloc_new W _)]; exact h
theorem new_frozen (W : World) (cs : Array Value) (t : TypeId) (q i : Nat) (hq : q = W.heap.size) : (W.alloc (.cells cs t)).frozen? ⟨q, i, none⟩ = false := by
  subst hq; exact frozen_of_row _ _ _ _ _ (heap_alloc_new W _)
theorem al_frozen {W : World} {o : Obj} {q i : Nat} (hq : q < W.heap.size) (h : W.frozen? ⟨q, i, none⟩ = false) : (W.alloc o).frozen? ⟨q, i, none⟩ = false := bl_frozen (bl_alloc (Below.refl _ W) o) hq h
theorem dr_frozen {W : World} {q i : Nat} (h : W.frozen? ⟨q, i, none⟩ = false) : W.drew.frozen? ⟨q, i, none⟩ = false := h
theorem al_cell {W : World} {o : Obj} {p : Addr} {v : Value} (h : W.cell? p = some v) : (W.alloc o).cell? p = some v := bl_cell (bl_alloc (Below.refl _ W) o) h
theorem dr_cell {W : World} {p : Addr} {v : Value} (h : W.cell? p = some v) : W.drew.cell? p = some v := h

theorem two_set {W : World} {q : Nat} {x y : Value} (v0 v1 : Value) (h0 : W.cell? ⟨q, 0, none⟩ = some x) (h1 : W.cell? ⟨q, 1, none⟩ = some y) :
    ((W.setCell ⟨q, 0, none⟩ v0).setCell ⟨q, 1, none⟩ v1).cell? ⟨q, 0, none⟩ = some v0 ∧ ((W.setCell ⟨q, 0, none⟩ v0).setCell ⟨q, 1, none⟩ v1).cell? ⟨q, 1, none⟩ = some v1 := by
  have hn : (⟨q, 1, none⟩ : Addr) ≠ ⟨q, 0, none⟩ := by simp
  refine ⟨(World.cell?_setCell_other _ _ _ _ hn).trans (World.cell?_setCell_same _ _ _ h0), World.cell?_setCell_same _ _ _ ((World.cell?_setCell_other _ _ _ _ hn.symm).trans h1)⟩

set_option maxRecDepth 100000 in
set_option maxHeartbeats 8000000 in
theorem snew_any (w : World) (b : Nat) (s : St) (L : List Nat) (f : Nat) (a : Int) (g c x y : Nat) (ha : a < 9223372036854775808) (h : SRep w b s L) (hf : s.Fit f) (hm : f < 1000000000)
    (hI : sIs s a = true) (hr : numsL (s.val (keyL 5 [(1 : Int)])).data.toList = some [x, y]) (h16 : sSets s a < 16) (hc : w.cell? ⟨g, 0, none⟩ = some (.int .i64 1)) (hg : g ∉ L) :
    Calls Tryz.prog 27 #[.pointer (some ⟨b, 0, none⟩), .int .i64 a, .slice (some ⟨g, 0, none⟩) 1 c] w (RetSt w b L (.tuple #[.int .i64 (sSets s a), .int .i64 0]) (sNew s a)) := by
  have hz : s.size < 1000000000000 := Nat.lt_of_le_of_lt hf.size (by omega)
  have hLt := h.lt
  have hb0 : Below w.heap.size w (w.alloc (.cells #[.pointer (some ⟨b, 0, none⟩)] 25)) := (Below.refl _ w).alloc (Nat.le_refl _) _
  have hp0 : (w.alloc (.cells #[.pointer (some ⟨b, 0, none⟩)] 25)).cell? ⟨w.heap.size, 0, none⟩ = some (.pointer (some ⟨b, 0, none⟩)) := by rw [cell_of_row _ _ _ _ _ _ (heap_alloc_new w _)]; rfl
  have HM := Lib.hid (made_at (w.alloc (.cells #[.pointer (some ⟨b, 0, none⟩)] 25)) b true (h.below hb0).cell0)
  have h1 := sis_any (w.alloc (.cells #[.pointer (some ⟨b, 0, none⟩)] 25)) b s L f a ha (h.below hb0) hf (by omega)
  rw [hI] at h1
  have HC : Hid (Calls Tryz.prog 13 #[.pointer (some ⟨b, 0, none⟩), .int .i64 a] (w.alloc (.cells #[.pointer (some ⟨b, 0, none⟩)] 25)) fun e w1 => e = .returned (.bool true) ∧
      Calls Tryz.prog 21 #[.slice (some ⟨g, 0, none⟩) 1 c] w1 fun e w2 => e = .returned (.bool true) ∧
      Calls Tryz.prog 54 #[.slice (some ⟨g, 0, none⟩) 1 c, .func (.func 55) #[] #[.pointer (some ⟨w.heap.size, 0, none⟩)]] w2 fun e w3 => e = .returned (.bool false) ∧ w3.cell? ⟨w.heap.size, 0, none⟩ = some (.pointer (some ⟨b, 0, none⟩)) ∧
      Calls Tryz.prog 17 #[.pointer (some ⟨b, 0, none⟩), .int .i64 a] w3 fun e w4 => e = .returned (.int .i64 (sSets s a)) ∧ w4.cell? ⟨w.heap.size, 0, none⟩ = some (.pointer (some ⟨b, 0, none⟩)) ∧ w4.cell? ⟨g, 0, none⟩ = some (.int .i64 1) ∧ Below w.heap.size w w4) := by
    refine h1.mono fun e w1 ⟨he, b1⟩ => ⟨he, ?_⟩
    have b01 := bl_then hb0 b1
    refine (rise_one w1 g c).mono fun e w2 ⟨he, b2⟩ => ⟨he, ?_⟩
    have b02 := bl_then b01 b2
    refine (containsF_any w2 b s L f 1 x y w.heap.size g c (by decide) (h.below b02) hf hr (bl_cell b2 (bl_cell b1 hp0)) (bl_cell b02 hc)).mono fun e w3 ⟨he, b3⟩ => ⟨he, bl_cell b3 (bl_cell b2 (bl_cell b1 hp0)), ?_⟩
    have b03 := bl_then b02 b3
    refine (ssets_any w3 b s L f a ha (h.below b03) hf (by omega)).mono fun e w4 ⟨he, b4⟩ => ⟨he, bl_cell b4 (bl_cell b3 (bl_cell b2 (bl_cell b1 hp0))), bl_cell (bl_then b03 b4) hc, bl_then b03 b4⟩
  have HK : Hid (∀ W q, W.cell? ⟨q, 0, none⟩ = some (.int .i64 a) → Calls Tryz.prog 36 #[.int .i64 22, .slice (some ⟨q, 0, none⟩) 1 1] W fun e w' => e = .returned (.string (keyL 22 [a])) ∧ Below W.heap.size W w' ∧ W.heap.size ≤ w'.heap.size ∧ (∀ q i, q < W.heap.size → w'.cell? ⟨q, i, none⟩ = W.cell? ⟨q, i, none⟩) ∧ (∀ q i, q < W.heap.size → w'.frozen? ⟨q, i, none⟩ = W.frozen? ⟨q, i, none⟩) ∧ (∀ q v, W.cell? ⟨q, 0, none⟩ = some v → w'.cell? ⟨q, 0, none⟩ = some v)) := fun W q hq =>
    (key_any 22 (by decide) (by decide) _ [a] W (intsAt_cells (l := [a]) fun j x hj => by
      match j, hj with
      | 0, hj => cases hj; exact hq) (by simp) (fun m hm => by rw [List.mem_singleton.1 hm]; exact ha)).mono fun e w' ⟨he, hb⟩ => ⟨he, hb, hb.size, fun q i hq => hb.cell (p := ⟨q, i, none⟩) hq, fun q i hq => by unfold World.frozen?; rw [hb.block q hq], fun q v h => bl_cell hb h⟩
  have HN : Hid (∀ W, Below w.heap.size w W → Calls Tryz.prog 51 #[.pointer (some ⟨b, 0, none⟩), .string (keyL 22 [a])] W fun e W' => e = .returned (.int .i64 ((sSets s a : Nat) + 1 : Int)) ∧
      (W.heap.size ≤ W'.heap.size ∧ (∀ q i, w.heap.size ≤ q → q < W.heap.size → W'.cell? ⟨q, i, none⟩ = W.cell? ⟨q, i, none⟩) ∧ (∀ q i, w.heap.size ≤ q → q < W.heap.size → W'.frozen? ⟨q, i, none⟩ = W.frozen? ⟨q, i, none⟩) ∧ W'.cell? ⟨g, 0, none⟩ = W.cell? ⟨g, 0, none⟩ ∧ (∀ q v, w.heap.size ≤ q → W.cell? ⟨q, 0, none⟩ = some v → W'.cell? ⟨q, 0, none⟩ = some v)) ∧ Fin w b (s.setInt (keyL 22 [a]) ((sSets s a : Nat) + 1 : Int)) L W.heap.size W'.heap.size W') := fun W hW => by
    refine (next_any W b s L (keyL 22 [a]) (h.below hW) hz (hf.val' _) (show sSets s a < _ by omega)).mono fun e W' hR => ⟨hR.1, ?_, Nat.le_refl _, ?_⟩
    · obtain ⟨_, L6, hS6, hT6⟩ := hR
      have hbk : ∀ q, w.heap.size ≤ q → q < W.heap.size → W'.heap[q]? = W.heap[q]? := fun q hq hql => hT6.fr.block q hql (fun hm => by have := hLt q hm; omega)
      refine ⟨hT6.fr.size, fun q i hq hql => World.cell?_of_block (hbk q hq hql), fun q i hq hql => by unfold World.frozen?; rw [hbk q hq hql], ?_⟩
      have hgl : g < W.heap.size := Nat.lt_of_lt_of_le (World.block_lt_of_cell? w _ hc) hW.size
      exact ⟨World.cell?_of_block (hT6.fr.block g hgl hg), fun q v hq h => (World.cell?_of_block (hbk q hq (World.block_lt_of_cell? _ _ h))).trans h⟩
    · obtain ⟨_, L6, hS6, hT6⟩ := hR
      refine ⟨L6, hS6, (Step.mk (Fr.of_below hW _) fun _ h => .inl h).trans hT6, fun q hq hq2 hm => ?_⟩
      rcases hT6.own q hm with h5 | h5
      · have := hLt q h5; omega
      · have := hS6.lt q hm; omega
  have HE : Hid (∀ N M wc q, Fin w b (s.setInt (keyL 22 [a]) ((sSets s a : Nat) + 1 : Int)) L N M wc → w.heap.size ≤ q → (q < N ∨ M ≤ q) → wc.cell? ⟨q, 0, none⟩ = some (.int .i64 a) → wc.cell? ⟨q, 1, none⟩ = some (.int .i64 (sSets s a)) → wc.cell? ⟨w.heap.size, 0, none⟩ = some (.pointer (some ⟨b, 0, none⟩)) → w.heap.size < N →
      Calls Tryz.prog 42 #[.agg #[.int .i64 a, .int .i64 (sSets s a)], .int .i64 1] wc.drew fun e w7 => e = .returned (.string (keyL 23 [a, (sSets s a : Int), 1])) ∧ (w7.cell? ⟨q, 0, none⟩ = some (.int .i64 a) ∧ w7.cell? ⟨q, 1, none⟩ = some (.int .i64 (sSets s a)) ∧ w7.cell? ⟨w.heap.size, 0, none⟩ = some (.pointer (some ⟨b, 0, none⟩))) ∧
      Calls Tryz.prog 53 #[.pointer (some ⟨b, 0, none⟩), .string (keyL 23 [a, (sSets s a : Int), 1]), .int .i64 1] w7 fun e w8 => e = .returned (.tuple #[]) ∧ (w8.cell? ⟨q, 0, none⟩ = some (.int .i64 a) ∧ w8.cell? ⟨q, 1, none⟩ = some (.int .i64 (sSets s a)) ∧ w8.cell? ⟨w.heap.size, 0, none⟩ = some (.pointer (some ⟨b, 0, none⟩))) ∧ RetSt w b L (.tuple #[.int .i64 (sSets s a), .int .i64 0]) (sNew s a) (.returned (.tuple #[.int .i64 (sSets s a), .int .i64 0])) w8) := fun N M wc q hF hq hq2 c0 c1 cp hN => by
    obtain ⟨_, L6, hS6, hT6, hno⟩ := hF.drew
    have hdc : ∀ {q i : Nat} {v : Value}, wc.cell? ⟨q, i, none⟩ = some v → wc.drew.cell? ⟨q, i, none⟩ = some v := fun h => bl_cell (bl_drew (Below.refl _ _)) h
    refine (setKey_any wc.drew a (sSets s a) 1 ha (by omega) (by decide)).mono fun e w7 ⟨he, b7⟩ => ⟨he, ⟨bl_cell b7 (hdc c0), bl_cell b7 (hdc c1), bl_cell b7 (hdc cp)⟩, ?_⟩
    refine (setIntG_any w7 b _ L6 _ 1 (by decide) (hS6.below b7) (Nat.lt_of_le_of_lt (hf.setInt _ _).size (by omega))).mono fun e w8 hR8 => ⟨hR8.1, ?_, (RetSt.step hT6 (RetSt.of_below b7 hR8)).as _⟩
    obtain ⟨_, L8, hS8, hT8⟩ := hR8
    exact ⟨step_cell hT8 (hno q hq hq2) (bl_cell b7 (hdc c0)), step_cell hT8 (hno q hq hq2) (bl_cell b7 (hdc c1)), step_cell hT8 (hno _ (Nat.le_refl _) (.inl hN)) (bl_cell b7 (hdc cp))⟩
  have hd16 : decide ((16 : Int) ≤ (sSets s a : Int)) = false := decide_eq_false (by omega)
  generalize RetSt w b L (.tuple #[.int .i64 (sSets s a), .int .i64 0]) (sNew s a) = R at *
  have hw16 : IntKind.i64.wrap (sSets s a : Int) = (sSets s a : Int) := IntWalk.i64_in _ (by omega)
  have hn16 : ((sSets s a : Nat) + 1 : Int) - 1 = (sSets s a : Int) := by omega
  generalize sSets s a = n at *
  generalize keyL 23 [a, (n : Int), 1] = k2 at *
  generalize keyL 22 [a] = k1 at *
  generalize s.setInt k1 ((n : Nat) + 1 : Int) = s1 at *
  clear h hf hz hI hr h1 hg hc hb0
  go_enter Tryz.func27, Tryz.ntmps27
  go_wp2_with fail
  refine HM.out.mono ?_
  rintro e w' ⟨rfl, rfl⟩
  go_wp2_with fail
  refine Calls.mono HC.out ?_
  rintro e w1 ⟨rfl, hC⟩
  have HC1 := Lib.hid hC
  clear hC HC HM
  go_wp2_with fail
  refine Calls.mono HC1.out ?_
  rintro e w2 ⟨rfl, hC⟩
  have HC2 := Lib.hid hC
  clear hC HC1
  go_wp2_with fail
  refine Calls.mono HC2.out ?_
  rintro e w3 ⟨rfl, p3, hC⟩
  have HC3 := Lib.hid hC
  clear hC HC2
  go_wp2_with fail
  refine Calls.mono HC3.out ?_
  rintro e w4 ⟨rfl, p4, g4, hb4⟩
  have hz4 := hb4.size
  have hlt4 : w.heap.size < w4.heap.size := World.block_lt_of_cell? w4 _ p4
  clear HC3 p3 hp0
  go_upto_region 11 with fail
  go_cut [8] from 11 (fun s8 wc => ∃ N M q, s8 = .pointer (some ⟨q, 0, none⟩) ∧ Fin w b s1 L N M wc ∧ w.heap.size ≤ q ∧ (q < N ∨ M ≤ q) ∧ wc.cell? ⟨q, 0, none⟩ = some (.int .i64 a) ∧ wc.cell? ⟨q, 1, none⟩ = some (.int .i64 n) ∧ wc.cell? ⟨w.heap.size, 0, none⟩ = some (.pointer (some ⟨b, 0, none⟩)) ∧ w.heap.size < N ∧ wc.cell? ⟨g, 0, none⟩ = some (.int .i64 1))
  case first =>
    have hne := World.new_ne w4 _ p4
    have hne1 := Ne.symm hne
    have hne2 : w4.heap.size + 1 ≠ w.heap.size := by omega
    have hne3 := Ne.symm hne2
    have gne := World.new_ne w4 _ g4
    have glt : g < w4.heap.size := World.block_lt_of_cell? w4 _ g4
    have gne1 := Ne.symm gne
    have gne2 : w4.heap.size + 1 ≠ g := by omega
    have gne3 := Ne.symm gne2
    go_region_held3 (fun W => W.cell? ⟨w.heap.size, 0, none⟩ = some (.pointer (some ⟨b, 0, none⟩))) (first | assumption | go_keep) (first
      | (go_at_call 36; refine Calls.mono (HK.out _ _ (by go_simp)) ?_; rintro e w5 ⟨rfl, b5, z5, kc5, kf5, kp5⟩; have c5 := kp5 w.heap.size _ (by first | assumption | go_keep); have n5 := World.new_ne _ _ c5; have n5' := Ne.symm n5; have g5 := kp5 g (.int .i64 1) (by first | assumption | go_keep); have gn5 := World.new_ne _ _ g5; have gn5' := Ne.symm gn5; have l5 : w.heap.size < w5.heap.size := World.block_lt_of_cell? _ _ c5; have z5s := z5; simp at z5s; try have d51 := kc5 (w4.heap.size) 0 (by first | omega | (simp; done) | (simp; omega)); try have d52 := kf5 (w4.heap.size) 0 (by first | omega | (simp; done) | (simp; omega)); try have d53 := kc5 (w4.heap.size) 1 (by first | omega | (simp; done) | (simp; omega)); try have d54 := kf5 (w4.heap.size) 1 (by first | omega | (simp; done) | (simp; omega)); try have d55 := kc5 (w4.heap.size + 1) 0 (by first | omega | (simp; done) | (simp; omega)); try have d56 := kf5 (w4.heap.size + 1) 0 (by first | omega | (simp; done) | (simp; omega)); try have d57 := kc5 (w4.heap.size + 1) 1 (by first | omega | (simp; done) | (simp; omega)); try have d58 := kf5 (w4.heap.size + 1) 1 (by first | omega | (simp; done) | (simp; omega)))
      | (go_at_call 51; refine Calls.mono (HN.out _ (by repeat (first | exact hb4 | apply bl_alloc | apply bl_drew | refine bl_then ?_ b5))) ?_; rintro e w6 ⟨rfl, ⟨z6, kc6, kf6, kg6, kp6⟩, hF⟩; have c6 := kp6 w.heap.size _ (Nat.le_refl _) (by first | assumption | go_keep); have n6 := World.new_ne _ _ c6; have n6' := Ne.symm n6; have g6 : w6.cell? ⟨g, 0, none⟩ = some (.int .i64 1) := kg6.trans (by first | assumption | go_keep); have gn6 := World.new_ne _ _ g6; have gn6' := Ne.symm gn6; have l6 : w.heap.size < w6.heap.size := World.block_lt_of_cell? _ _ c6; try have d61 := kc6 (w4.heap.size) 0 (by omega) (by first | omega | (simp; done) | (simp; omega)); try have d62 := kf6 (w4.heap.size) 0 (by omega) (by first | omega | (simp; done) | (simp; omega)); try have d63 := kc6 (w4.heap.size) 1 (by omega) (by first | omega | (simp; done) | (simp; omega)); try have d64 := kf6 (w4.heap.size) 1 (by omega) (by first | omega | (simp; done) | (simp; omega)); try have d65 := kc6 (w4.heap.size + 1) 0 (by omega) (by first | omega | (simp; done) | (simp; omega)); try have d66 := kf6 (w4.heap.size + 1) 0 (by omega) (by first | omega | (simp; done) | (simp; omega)); try have d67 := kc6 (w4.heap.size + 1) 1 (by omega) (by first | omega | (simp; done) | (simp; omega)); try have d68 := kf6 (w4.heap.size + 1) 1 (by omega) (by first | omega | (simp; done) | (simp; omega)); try have d69 := kc6 (w5.heap.size) 0 (by omega) (by first | omega | (simp; done) | (simp; omega)); try have d610 := kf6 (w5.heap.size) 0 (by omega) (by first | omega | (simp; done) | (simp; omega)); try have d611 := kc6 (w5.heap.size) 1 (by omega) (by first | omega | (simp; done) | (simp; omega)); try have d612 := kf6 (w5.heap.size) 1 (by omega) (by first | omega | (simp; done) | (simp; omega))))
    all_goals
      go_wp2_with fail
      go_meet
      case rel =>
        refine ⟨_, _, _, rfl, (by first | exact hF.alloc _ | exact (hF.set _ (by omega) (by first | (left; simp; done) | (left; omega))).set _ (by omega) (by first | (left; simp; done) | (left; omega))), by omega, by first | (left; simp; done) | (left; omega) | (right; omega), ?_, ?_, ?_, by first | omega | (simp; omega), ?_⟩
        all_goals
          first
            | assumption
            | go_keep
            | exact (two_set (x := .int .i64 0) (y := .int .i64 0) _ _ (by go_keep) (by go_keep)).1
            | exact (two_set (x := .int .i64 0) (y := .int .i64 0) _ _ (by go_keep) (by go_keep)).2
  case rest =>
    obtain ⟨N, M, q, rfl, hF, hq, hq2, c0, c1, cp, hN, cg⟩ := hcut
    have HE1 := Lib.hid (HE.out N M wc q hF hq hq2 c0 c1 cp hN)
    clear HE HK HN hF p4 g4 hb4 hz4 hlt4
    go_wp2_with fail
    refine wp_loop_rounds 2 ?_
    rw [rounds_succ]
    go_wp2_with fail
    go_region_held3 (fun W => W.cell? ⟨w.heap.size, 0, none⟩ = some (.pointer (some ⟨b, 0, none⟩)) ∧ W.cell? ⟨q, 0, none⟩ = some (.int .i64 a) ∧ W.cell? ⟨q, 1, none⟩ = some (.int .i64 n)) (first | assumption | (refine ⟨?_, ?_, ?_⟩ <;> assumption) | go_keep) (first
      | (go_at_call 42; refine Calls.mono HE1.out ?_; rintro e w7 ⟨rfl, ⟨e0, e1, ep⟩, hE⟩; have HE2 := Lib.hid hE; clear hE)
      | (go_at_call 53; refine Calls.mono HE2.out ?_; rintro e w8 ⟨rfl, ⟨f0, f1, fp⟩, hE⟩; have HE3 := Lib.hid hE; clear hE))
    go_wp2_with fail
    rw [rounds_succ]
    go_wp2_with fail
    exact HE3.out
end Go.Proofs.YtnblhjndngpbnaaGreat
