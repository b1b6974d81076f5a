/- What is proved here: service.New of any list. Its conditions: numbers below 2^63, sizes; the list lies in no block of the store. -/
import Derived.Test.YtnblhjndngpbnaaGreatServB
import Derived.Test.YtnblhjndngpbnaaGreatServC
import Derived.Test.YtnblhjndngpbnaaGreatServ6
namespace Go.Proofs.YtnblhjndngpbnaaGreat
open Go.RowKit

theorem putL_snoc (s : St) (a n : Int) : ∀ (l : List Int) (g : Int), putL s a n (l ++ [g]) = (putL s a n l).setInt (keyL 23 [a, n, g]) 1 := by
  intro l
  induction l generalizing s with
  | nil => intro g; rfl
  | cons x l ih => intro g; exact ih _ g
theorem putL_fit {s : St} {f : Nat} (h : s.Fit f) (a n : Int) : ∀ l : List Int, (putL s a n l).Fit (f + 2 * l.length) := by
  intro l
  induction l generalizing s f with
  | nil => exact h
  | cons x l ih => exact (ih (h.setInt _ _)).mono (by simp; omega)

/-- Behind k rounds of New's loop. -/
def NewTo (w : World) (b : Nat) (s1 : St) (L : List Nat) (a n : Int) (l : List Int) (q : Nat) (k : Nat) (wr : World) : Prop :=
  ∃ L', SRep wr b (putL s1 a n (l.take k)) L' ∧ Step w L wr L' ∧ q ∉ L' ∧ w.heap.size ∉ L' ∧ wr.cell? ⟨q, 0, none⟩ = some (.int .i64 a) ∧ wr.cell? ⟨q, 1, none⟩ = some (.int .i64 n) ∧ wr.cell? ⟨w.heap.size, 0, none⟩ = some (.pointer (some ⟨b, 0, none⟩))

set_option maxRecDepth 100000 in
set_option maxHeartbeats 8000000 in
theorem snewS_any (w : World) (b : Nat) (s : St) (L : List Nat) (f : Nat) (a : Int) (v : Value) (l : List Int) (ha : a < 9223372036854775808) (h : SRep w b s L) (hf : s.Fit f) (hm : f < 1000000000)
    (hv : ∀ w', Fr (fun k => k ∈ L) w w' → IntsAt w' v l) (hl : l.length < 100000000) (hr : ∀ n ∈ l, n < 9223372036854775808)
    (hI : sIs s a = true) (hri : riseL l = true) (hu : unkL s l = false) (h16 : sSets s a < 16) :
    Calls Tryz.prog 27 #[.pointer (some ⟨b, 0, none⟩), .int .i64 a, v] w (RetSt w b L (.tuple #[.int .i64 (sSets s a), .int .i64 0]) (putL (s.setInt (keyL 22 [a]) ((sSets s a : Nat) + 1 : Int)) a (sSets s a) l)) := by
  have hz : s.size < 1000000000000 := Nat.lt_of_le_of_lt hf.size (by omega)
  have hLt := h.lt
  have hv0 := hv w (Fr.refl _ w)
  obtain ⟨ad, c, rfl, hrd⟩ := ints_reads hv0
  have hb0 : Below w.heap.size w (w.alloc (.cells #[.pointer (some ⟨b, 0, none⟩)] 25)) := (Below.refl _ w).alloc (Nat.le_refl _) _
  have hp0 : (w.alloc (.cells #[.pointer (some ⟨b, 0, none⟩)] 25)).cell? ⟨w.heap.size, 0, none⟩ = some (.pointer (some ⟨b, 0, none⟩)) := by rw [cell_of_row _ _ _ _ _ _ (heap_alloc_new w _)]; rfl
  have HM := Lib.hid (made_at (w.alloc (.cells #[.pointer (some ⟨b, 0, none⟩)] 25)) b true (h.below hb0).cell0)
  have h1 := sis_any (w.alloc (.cells #[.pointer (some ⟨b, 0, none⟩)] 25)) b s L f a ha (h.below hb0) hf (by omega)
  rw [hI] at h1
  have HC : Hid (Calls Tryz.prog 13 #[.pointer (some ⟨b, 0, none⟩), .int .i64 a] (w.alloc (.cells #[.pointer (some ⟨b, 0, none⟩)] 25)) fun e w1 => e = .returned (.bool true) ∧
      Calls Tryz.prog 21 #[.slice ad l.length c] w1 fun e w2 => e = .returned (.bool true) ∧
      Calls Tryz.prog 54 #[.slice ad l.length c, .func (.func 55) #[] #[.pointer (some ⟨w.heap.size, 0, none⟩)]] w2 fun e w3 => e = .returned (.bool false) ∧ w3.cell? ⟨w.heap.size, 0, none⟩ = some (.pointer (some ⟨b, 0, none⟩)) ∧
      Calls Tryz.prog 17 #[.pointer (some ⟨b, 0, none⟩), .int .i64 a] w3 fun e w4 => e = .returned (.int .i64 (sSets s a)) ∧ w4.cell? ⟨w.heap.size, 0, none⟩ = some (.pointer (some ⟨b, 0, none⟩)) ∧ Below w.heap.size w w4) := by
    refine h1.mono fun e w1 ⟨he, b1⟩ => ⟨he, ?_⟩
    have b01 := bl_then hb0 b1
    have hR := rise_any w1 _ l (hv0.below b01) (by omega)
    rw [hri] at hR
    refine hR.mono fun e w2 ⟨he, b2⟩ => ⟨he, ?_⟩
    have b02 := bl_then b01 b2
    have hCF := containsF_all w2 b s L f _ l w.heap.size (hv0.below b02) (by omega) hr (h.below b02) hf (bl_cell b2 (bl_cell b1 hp0))
    rw [hu] at hCF
    refine hCF.mono fun e w3 ⟨he, b3⟩ => ⟨he, bl_cell b3 (bl_cell b2 (bl_cell b1 hp0)), ?_⟩
    have b03 := bl_then b02 b3
    refine (ssets_any w3 b s L f a ha (h.below b03) hf (by omega)).mono fun e w4 ⟨he, b4⟩ => ⟨he, bl_cell b4 (bl_cell b3 (bl_cell b2 (bl_cell b1 hp0))), bl_then b03 b4⟩
  have HK : Hid (∀ W q, W.cell? ⟨q, 0, none⟩ = some (.int .i64 a) → Calls Tryz.prog 36 #[.int .i64 22, .slice (some ⟨q, 0, none⟩) 1 1] W fun e w' => e = .returned (.string (keyL 22 [a])) ∧ Below W.heap.size W w' ∧ W.heap.size ≤ w'.heap.size ∧ (∀ q i, q < W.heap.size → w'.cell? ⟨q, i, none⟩ = W.cell? ⟨q, i, none⟩) ∧ (∀ q i, q < W.heap.size → w'.frozen? ⟨q, i, none⟩ = W.frozen? ⟨q, i, none⟩) ∧ (∀ q v, W.cell? ⟨q, 0, none⟩ = some v → w'.cell? ⟨q, 0, none⟩ = some v)) := fun W q hq =>
    (key_any 22 (by decide) (by decide) _ [a] W (intsAt_cells (l := [a]) fun j x hj => by
      match j, hj with
      | 0, hj => cases hj; exact hq) (by simp) (fun m hm => by rw [List.mem_singleton.1 hm]; exact ha)).mono fun e w' ⟨he, hb⟩ => ⟨he, hb, hb.size, fun q i hq => hb.cell (p := ⟨q, i, none⟩) hq, fun q i hq => by unfold World.frozen?; rw [hb.block q hq], fun q v h => bl_cell hb h⟩
  have HN : Hid (∀ W, Below w.heap.size w W → Calls Tryz.prog 51 #[.pointer (some ⟨b, 0, none⟩), .string (keyL 22 [a])] W fun e W' => e = .returned (.int .i64 ((sSets s a : Nat) + 1 : Int)) ∧
      (W.heap.size ≤ W'.heap.size ∧ (∀ q i, w.heap.size ≤ q → q < W.heap.size → W'.cell? ⟨q, i, none⟩ = W.cell? ⟨q, i, none⟩) ∧ (∀ q i, w.heap.size ≤ q → q < W.heap.size → W'.frozen? ⟨q, i, none⟩ = W.frozen? ⟨q, i, none⟩) ∧ (∀ q v, w.heap.size ≤ q → W.cell? ⟨q, 0, none⟩ = some v → W'.cell? ⟨q, 0, none⟩ = some v)) ∧ Fin w b (s.setInt (keyL 22 [a]) ((sSets s a : Nat) + 1 : Int)) L W.heap.size W'.heap.size W') := fun W hW => by
    refine (next_any W b s L (keyL 22 [a]) (h.below hW) hz (hf.val' _) (show sSets s a < _ by omega)).mono fun e W' hR => ⟨hR.1, ?_, Nat.le_refl _, ?_⟩
    · obtain ⟨_, L6, hS6, hT6⟩ := hR
      have hbk : ∀ q, w.heap.size ≤ q → q < W.heap.size → W'.heap[q]? = W.heap[q]? := fun q hq hql => hT6.fr.block q hql (fun hm => by have := hLt q hm; omega)
      refine ⟨hT6.fr.size, fun q i hq hql => World.cell?_of_block (hbk q hq hql), fun q i hq hql => by unfold World.frozen?; rw [hbk q hq hql], ?_⟩
      exact fun q v hq h => (World.cell?_of_block (hbk q hq (World.block_lt_of_cell? _ _ h))).trans h
    · obtain ⟨_, L6, hS6, hT6⟩ := hR
      refine ⟨L6, hS6, (Step.mk (Fr.of_below hW _) fun _ h => .inl h).trans hT6, fun q hq hq2 hm => ?_⟩
      rcases hT6.own q hm with h5 | h5
      · have := hLt q h5; omega
      · have := hS6.lt q hm; omega
  have hFit1 : (s.setInt (keyL 22 [a]) ((sSets s a : Nat) + 1 : Int)).Fit (f + 2) := hf.setInt _ _
  have HRD : Hid (∀ q k g wr, NewTo w b (s.setInt (keyL 22 [a]) ((sSets s a : Nat) + 1 : Int)) L a (sSets s a) l q k wr → l[k]? = some g → ∃ a', ad = some a' ∧ wr.cell? (a'.add k) = some (.int .i64 g)) := fun q k g wr hN hk => by
    obtain ⟨L', _, hT, _⟩ := hN
    exact hrd wr (hv wr hT.fr) k g hk
  have H0 : Hid (∀ N M wc q, Fin w b (s.setInt (keyL 22 [a]) ((sSets s a : Nat) + 1 : Int)) L N M wc → w.heap.size ≤ q → (q < N ∨ M ≤ q) → wc.cell? ⟨q, 0, none⟩ = some (.int .i64 a) → wc.cell? ⟨q, 1, none⟩ = some (.int .i64 (sSets s a)) → wc.cell? ⟨w.heap.size, 0, none⟩ = some (.pointer (some ⟨b, 0, none⟩)) → w.heap.size < N → NewTo w b (s.setInt (keyL 22 [a]) ((sSets s a : Nat) + 1 : Int)) L a (sSets s a) l q 0 wc) := fun N M wc q hF hq hq2 c0 c1 cp hN => by
    obtain ⟨_, L6, hS6, hT6, hno⟩ := hF
    exact ⟨L6, hS6, hT6, hno q hq hq2, hno _ (Nat.le_refl _) (.inl hN), c0, c1, cp⟩
  have HEND : Hid (∀ q wr, NewTo w b (s.setInt (keyL 22 [a]) ((sSets s a : Nat) + 1 : Int)) L a (sSets s a) l q l.length wr → RetSt w b L (.tuple #[.int .i64 (sSets s a), .int .i64 0]) (putL (s.setInt (keyL 22 [a]) ((sSets s a : Nat) + 1 : Int)) a (sSets s a) l) (.returned (.tuple #[.int .i64 (sSets s a), .int .i64 0])) wr) := fun q wr hN => by
    obtain ⟨L', hS, hT, _⟩ := hN
    rw [List.take_length] at hS
    exact ⟨rfl, L', hS, hT⟩
  have HE : Hid (∀ q k g wr, NewTo w b (s.setInt (keyL 22 [a]) ((sSets s a : Nat) + 1 : Int)) L a (sSets s a) l q k wr → l[k]? = some g →
      Calls Tryz.prog 42 #[.agg #[.int .i64 a, .int .i64 (sSets s a)], .int .i64 g] wr.drew fun e w7 => e = .returned (.string (keyL 23 [a, (sSets s a : Int), g])) ∧ (w7.cell? ⟨q, 0, none⟩ = some (.int .i64 a) ∧ w7.cell? ⟨q, 1, none⟩ = some (.int .i64 (sSets s a)) ∧ w7.cell? ⟨w.heap.size, 0, none⟩ = some (.pointer (some ⟨b, 0, none⟩))) ∧
      Calls Tryz.prog 53 #[.pointer (some ⟨b, 0, none⟩), .string (keyL 23 [a, (sSets s a : Int), g]), .int .i64 1] w7 fun e w8 => e = .returned (.tuple #[]) ∧ (w8.cell? ⟨q, 0, none⟩ = some (.int .i64 a) ∧ w8.cell? ⟨q, 1, none⟩ = some (.int .i64 (sSets s a)) ∧ w8.cell? ⟨w.heap.size, 0, none⟩ = some (.pointer (some ⟨b, 0, none⟩))) ∧ NewTo w b (s.setInt (keyL 22 [a]) ((sSets s a : Nat) + 1 : Int)) L a (sSets s a) l q (k + 1) w8) := fun q k g wr hN hk => by
    obtain ⟨L6, hS6, hT6, hq6, hp6, c0, c1, cp⟩ := hN
    have hbd := bl_drew (Below.refl wr.heap.size wr)
    have hdc : ∀ {q i : Nat} {v : Value}, wr.cell? ⟨q, i, none⟩ = some v → wr.drew.cell? ⟨q, i, none⟩ = some v := fun h => bl_cell hbd h
    refine (setKey_any wr.drew a (sSets s a) g ha (by omega) (hr g (List.mem_of_getElem? hk))).mono fun e w7 ⟨he, b7⟩ => ⟨he, ⟨bl_cell b7 (hdc c0), bl_cell b7 (hdc c1), bl_cell b7 (hdc cp)⟩, ?_⟩
    have b77 := bl_then hbd b7
    have hkl : k < l.length := (List.getElem?_eq_some_iff.1 hk).1
    have hfk := putL_fit hFit1 a (sSets s a) (l.take k)
    refine (setIntG_any w7 b _ L6 _ 1 (by decide) (hS6.below b77) (Nat.lt_of_le_of_lt hfk.size (by rw [List.length_take]; omega))).mono fun e w8 hR8 => ⟨hR8.1, ?_, ?_⟩
    · obtain ⟨_, L8, hS8, hT8⟩ := hR8
      exact ⟨step_cell hT8 hq6 (bl_cell b7 (hdc c0)), step_cell hT8 hq6 (bl_cell b7 (hdc c1)), step_cell hT8 hp6 (bl_cell b7 (hdc cp))⟩
    · obtain ⟨_, L8, hS8, hT8⟩ := hR8
      have q7 := World.block_lt_of_cell? w7 _ (bl_cell b7 (hdc c0))
      have p7 := World.block_lt_of_cell? w7 _ (bl_cell b7 (hdc cp))
      refine ⟨L8, ?_, hT6.trans ((Step.mk (Fr.of_below b77 _) fun _ h => .inl h).trans hT8), fun hm => ?_, fun hm => ?_, step_cell hT8 hq6 (bl_cell b7 (hdc c0)), step_cell hT8 hq6 (bl_cell b7 (hdc c1)), step_cell hT8 hp6 (bl_cell b7 (hdc cp))⟩
      · rw [take_one_more l k g hk, putL_snoc]; exact hS8
      · rcases hT8.own _ hm with h5 | h5
        · exact hq6 h5
        · exact Nat.not_lt.2 h5 q7
      · rcases hT8.own _ hm with h5 | h5
        · exact hp6 h5
        · exact Nat.not_lt.2 h5 p7
  have HCELL : Hid (∀ q k wr, NewTo w b (s.setInt (keyL 22 [a]) ((sSets s a : Nat) + 1 : Int)) L a (sSets s a) l q k wr → wr.cell? ⟨q, 0, none⟩ = some (.int .i64 a) ∧ wr.cell? ⟨q, 1, none⟩ = some (.int .i64 (sSets s a)) ∧ wr.cell? ⟨w.heap.size, 0, none⟩ = some (.pointer (some ⟨b, 0, none⟩))) := fun q k wr hN => by
    obtain ⟨_, _, _, _, _, h7⟩ := hN
    exact h7
  have HGET : Hid (∀ k, k < l.length → ∃ n, l[k]? = some n) := fun k hk => ⟨l[k], List.getElem?_eq_getElem hk⟩
  have hd16 : decide ((16 : Int) ≤ (sSets s a : Int)) = false := decide_eq_false (by omega)
  generalize RetSt w b L (.tuple #[.int .i64 (sSets s a), .int .i64 0]) (putL (s.setInt (keyL 22 [a]) ((sSets s a : Nat) + 1 : Int)) a (sSets s a) l) = R at *
  have hw16 : IntKind.i64.wrap (sSets s a : Int) = (sSets s a : Int) := IntWalk.i64_in _ (by omega)
  have hn16 : ((sSets s a : Nat) + 1 : Int) - 1 = (sSets s a : Int) := by omega
  have hFit2 := Lib.hid hFit1
  clear hFit1
  generalize sSets s a = n at *
  generalize keyL 22 [a] = k1 at *
  generalize s.setInt k1 ((n : Nat) + 1 : Int) = s1 at *
  generalize hNT : NewTo w b s1 L a n l = NT at *
  clear hNT
  clear h hf hz hI hr h1 hb0 hv hv0 hrd hu hri hFit2
  generalize hlm : l.length = m at *
  have HLM := Lib.hid hlm
  clear hlm
  go_enter Tryz.func27, Tryz.ntmps27
  go_wp2_with fail
  refine HM.out.mono ?_
  rintro e w' ⟨rfl, rfl⟩
  go_wp2_with fail
  refine Calls.mono HC.out ?_
  rintro e w1 ⟨rfl, hC⟩
  have HC1 := Lib.hid hC
  clear hC HC HM
  go_wp2_with fail
  refine Calls.mono HC1.out ?_
  rintro e w2 ⟨rfl, hC⟩
  have HC2 := Lib.hid hC
  clear hC HC1
  go_wp2_with fail
  refine Calls.mono HC2.out ?_
  rintro e w3 ⟨rfl, p3, hC⟩
  have HC3 := Lib.hid hC
  clear hC HC2
  go_wp2_with fail
  refine Calls.mono HC3.out ?_
  rintro e w4 ⟨rfl, p4, hb4⟩
  have hz4 := hb4.size
  have hlt4 : w.heap.size < w4.heap.size := World.block_lt_of_cell? w4 _ p4
  clear HC3 p3 hp0
  go_upto_region 11 with fail
  go_cut [8] from 11 (fun s8 wc => ∃ N M q, s8 = .pointer (some ⟨q, 0, none⟩) ∧ Fin w b s1 L N M wc ∧ w.heap.size ≤ q ∧ (q < N ∨ M ≤ q) ∧ wc.cell? ⟨q, 0, none⟩ = some (.int .i64 a) ∧ wc.cell? ⟨q, 1, none⟩ = some (.int .i64 n) ∧ wc.cell? ⟨w.heap.size, 0, none⟩ = some (.pointer (some ⟨b, 0, none⟩)) ∧ w.heap.size < N)
  case first =>
    have hne := World.new_ne w4 _ p4
    have hne1 := Ne.symm hne
    have hne2 : w4.heap.size + 1 ≠ w.heap.size := by omega
    have hne3 := Ne.symm hne2
    go_region_held3 (fun W => W.cell? ⟨w.heap.size, 0, none⟩ = some (.pointer (some ⟨b, 0, none⟩))) (first | assumption | go_keep) (first
      | (go_at_call 36; refine Calls.mono (HK.out _ _ (by go_simp)) ?_; rintro e w5 ⟨rfl, b5, z5, kc5, kf5, kp5⟩; have c5 := kp5 w.heap.size _ (by first | assumption | go_keep); have n5 := World.new_ne _ _ c5; have n5' := Ne.symm n5; have l5 : w.heap.size < w5.heap.size := World.block_lt_of_cell? _ _ c5; have z5s := z5; simp at z5s; try have d51 := kc5 (w4.heap.size) 0 (by first | omega | (simp; done) | (simp; omega)); try have d52 := kf5 (w4.heap.size) 0 (by first | omega | (simp; done) | (simp; omega)); try have d53 := kc5 (w4.heap.size) 1 (by first | omega | (simp; done) | (simp; omega)); try have d54 := kf5 (w4.heap.size) 1 (by first | omega | (simp; done) | (simp; omega)); try have d55 := kc5 (w4.heap.size + 1) 0 (by first | omega | (simp; done) | (simp; omega)); try have d56 := kf5 (w4.heap.size + 1) 0 (by first | omega | (simp; done) | (simp; omega)); try have d57 := kc5 (w4.heap.size + 1) 1 (by first | omega | (simp; done) | (simp; omega)); try have d58 := kf5 (w4.heap.size + 1) 1 (by first | omega | (simp; done) | (simp; omega)))
      | (go_at_call 51; refine Calls.mono (HN.out _ (by repeat (first | exact hb4 | apply bl_alloc | apply bl_drew | refine bl_then ?_ b5))) ?_; rintro e w6 ⟨rfl, ⟨z6, kc6, kf6, kp6⟩, hF⟩; have c6 := kp6 w.heap.size _ (Nat.le_refl _) (by first | assumption | go_keep); have n6 := World.new_ne _ _ c6; have n6' := Ne.symm n6; have l6 : w.heap.size < w6.heap.size := World.block_lt_of_cell? _ _ c6; try have d61 := kc6 (w4.heap.size) 0 (by omega) (by first | omega | (simp; done) | (simp; omega)); try have d62 := kf6 (w4.heap.size) 0 (by omega) (by first | omega | (simp; done) | (simp; omega)); try have d63 := kc6 (w4.heap.size) 1 (by omega) (by first | omega | (simp; done) | (simp; omega)); try have d64 := kf6 (w4.heap.size) 1 (by omega) (by first | omega | (simp; done) | (simp; omega)); try have d65 := kc6 (w4.heap.size + 1) 0 (by omega) (by first | omega | (simp; done) | (simp; omega)); try have d66 := kf6 (w4.heap.size + 1) 0 (by omega) (by first | omega | (simp; done) | (simp; omega)); try have d67 := kc6 (w4.heap.size + 1) 1 (by omega) (by first | omega | (simp; done) | (simp; omega)); try have d68 := kf6 (w4.heap.size + 1) 1 (by omega) (by first | omega | (simp; done) | (simp; omega)); try have d69 := kc6 (w5.heap.size) 0 (by omega) (by first | omega | (simp; done) | (simp; omega)); try have d610 := kf6 (w5.heap.size) 0 (by omega) (by first | omega | (simp; done) | (simp; omega)); try have d611 := kc6 (w5.heap.size) 1 (by omega) (by first | omega | (simp; done) | (simp; omega)); try have d612 := kf6 (w5.heap.size) 1 (by omega) (by first | omega | (simp; done) | (simp; omega))))
    all_goals
      go_wp2_with fail
      go_meet
      case rel =>
        refine ⟨_, _, _, rfl, (by first | exact hF.alloc _ | exact (hF.set _ (by omega) (by first | (left; simp; done) | (left; omega))).set _ (by omega) (by first | (left; simp; done) | (left; omega))), by omega, by first | (left; simp; done) | (left; omega) | (right; omega), ?_, ?_, ?_, by first | omega | (simp; omega)⟩
        all_goals
          first
            | assumption
            | go_keep
            | exact (two_set (x := .int .i64 0) (y := .int .i64 0) _ _ (by go_keep) (by go_keep)).1
            | exact (two_set (x := .int .i64 0) (y := .int .i64 0) _ _ (by go_keep) (by go_keep)).2
  case rest =>
    obtain ⟨N, M, q, rfl, hF, hq, hq2, c0, c1, cp, hN⟩ := hcut
    have HT0 := Lib.hid (H0.out N M wc q hF hq hq2 c0 c1 cp hN)
    clear H0 HK HN hF p4 hb4 hz4 hlt4 c0 c1 cp hN hq hq2
    go_wp2_with fail
    go_loopw [43] (fun i wr => ∃ k : Nat, i = .int .i64 k ∧ k ≤ m ∧ NT q k wr) (fun i _ => m - (intOf i).toNat)
    case atStart => exact ⟨0, rfl, by omega, HT0.out⟩
    case round =>
      obtain ⟨k, rfl, hk, hNk⟩ := hrel
      have HKK := Lib.hid hNk
      clear hNk HT0
      obtain ⟨c0, c1, cp⟩ := HCELL.out q k wr HKK.out
      by_cases hlt : k < m
      · obtain ⟨g, hg⟩ := HGET.out k hlt
        obtain ⟨a', rfl, hc⟩ := HRD.out q k g wr HKK.out hg
        have HE1 := Lib.hid (HE.out q k g wr HKK.out hg)
        clear hg
        go_wp2_with fail
        go_region_held3 (fun W => W.cell? ⟨w.heap.size, 0, none⟩ = some (.pointer (some ⟨b, 0, none⟩)) ∧ W.cell? ⟨q, 0, none⟩ = some (.int .i64 a) ∧ W.cell? ⟨q, 1, none⟩ = some (.int .i64 n)) (first | assumption | (refine ⟨?_, ?_, ?_⟩ <;> assumption) | go_keep) (first
          | (go_at_call 42; refine Calls.mono HE1.out ?_; rintro e w7 ⟨rfl, ⟨e0, e1, ep⟩, hE⟩; have HE2 := Lib.hid hE; clear hE)
          | (go_at_call 53; refine Calls.mono HE2.out ?_; rintro e w8 ⟨rfl, ⟨f0, f1, fp⟩, hE⟩; have HE3 := Lib.hid hE; clear hE))
        go_wp2_with fail
        go_roundw
        case rel => exact ⟨k + 1, by go_num, by omega, HE3.out⟩
        case measure => simp [intOf]; omega
      · obtain rfl : k = m := by omega
        have HEE := Lib.hid (HEND.out q wr HKK.out)
        go_wp2_with fail
        exact HEE.out
end Go.Proofs.YtnblhjndngpbnaaGreat
