/- What is proved here: the reference's lay: an entry put or taken out. Its condition: fewer than 10^12 entries. -/
import Derived.Test.YtgnnnjabgoadaaaRStore
import Derived.Test.YtgnnnjabgoadaaaSrc
namespace Go.Proofs.Ytgnnnjabgoadaaa
open Go.RowKit

/-- What is put or taken out, said by places. -/
theorem layE_in {l : List Ent} (hs : Sorted l) {k : ByteArray} (v : ByteArray) (t : Bool) (h : (getE l k).isSome = true) :
    layE l k v t = l.take (lb (l.map Prod.fst) k) ++ (if t then [(k, v)] else []) ++ l.drop (lb (l.map Prod.fst) k + 1) := by
  induction l with
  | nil => simp [getE] at h
  | cons x r ih =>
    obtain ⟨a, b⟩ := x
    have hp := List.pairwise_cons.1 hs
    simp only [List.map_cons, lb_cons]
    by_cases e : a = k
    · subst e
      cases t <;> simp [layE, delE, putE, KLt.irrefl]
    · simp only [getE, e, if_false] at h
      obtain ⟨u, hu⟩ := Option.isSome_iff_exists.1 h
      have hlt : KLt a k := hp.1 _ (getE_mem hu)
      have := ih hp.2 h
      simp only [layE] at this
      cases t
      · simp only [Bool.false_eq_true, if_false, List.append_nil] at this
        simp [layE, delE, e, hlt, this]
      · simp only [if_true] at this
        simp [layE, putE, hlt, this]

theorem layE_out {l : List Ent} (hs : Sorted l) {k : ByteArray} (v : ByteArray) (t : Bool) (h : (getE l k).isSome = false) :
    layE l k v t = l.take (lb (l.map Prod.fst) k) ++ (if t then [(k, v)] else []) ++ l.drop (lb (l.map Prod.fst) k) := by
  cases t
  · simp [layE, delE_keys_not h]
  · induction l with
    | nil => simp [layE, putE]
    | cons x r ih =>
      obtain ⟨a, b⟩ := x
      have hp := List.pairwise_cons.1 hs
      simp only [List.map_cons, lb_cons]
      by_cases e : a = k
      · simp [getE, e] at h
      · simp only [getE, e, if_false] at h
        have := ih hp.2 h
        simp only [layE, if_true] at this ⊢
        by_cases hlt : KLt a k
        · simp [putE, hlt, this]
        · simp [putE, hlt, e]

theorem pairT : SliceT Try.prog 35 39 (.agg #[.string ⟨#[]⟩, .string ⟨#[]⟩]) 2 32 := ⟨by kernel_rfl, by kernel_rfl, rfl, by decide⟩

/-- Pairs in the making. -/
def OutAt (w wr : World) (v : Value) (n : Nat) (l : List Ent) : Prop := Own wr 39 2 v n (pairV l) ∧ (∀ g, v.ownBlock = some g → w.heap.size ≤ g) ∧ Below w.heap.size w wr

theorem OutAt.len {w wr : World} {v : Value} {n : Nat} {l : List Ent} (h : OutAt w wr v n l) : l.length = n := by
  have := h.1.1; rw [pairV_len] at this; omega
theorem OutAt.start (w : World) : OutAt w w (.slice none 0 0) 0 [] := ⟨Own.nil _ _ _, fun g hg => by simp [Value.ownBlock] at hg, Below.refl _ _⟩
theorem OutAt.alloc {w wr : World} {v : Value} {n : Nat} {l : List Ent} (h : OutAt w wr v n l) (o : Obj) : OutAt w (wr.alloc o) v n l :=
  ⟨h.1.fr ((Fr.refl (fun _ => False) wr).alloc _) (fun _ _ => id), h.2.1, h.2.2.alloc h.2.2.size _⟩
theorem OutAt.next {w wr : World} {v : Value} {n : Nat} {l : List Ent} (h : OutAt w wr v n l) {m : Nat} {l2 : List Ent} {v' : Value} {w' : World} (hA : Appended wr 39 2 v n m (pairV l) (pairV l2) v' w') : OutAt w w' v' (n + m) (l ++ l2) := by
  refine ⟨by rw [pairV_append]; exact hA.own, fun g hg => ?_, h.2.2.grown hA.grown h.2.2.size h.2.1⟩
  rcases hA.block g hg with h1 | h1
  · exact h.2.1 g h1
  · exact Nat.le_trans h.2.2.size h1

/-- The store, with other entries laid. -/
def RetRLaid (w : World) (b : Nat) (pv : Value) (s' : St) (e : Ending) (w' : World) : Prop := e = .returned (.tuple #[]) ∧ ∃ lv', RAt w' b lv' pv s' ∧ (∀ g, lv'.ownBlock = some g → w.heap.size ≤ g) ∧ Fr (fun k => k = b) w w'

theorem rlay_end {w w1 : World} {b : Nat} {lv pv : Value} {s : St} {l : List Ent} {v : Value} {n : Nat} (h : RAt w b lv pv s) (hs : Sorted l) (hO : OutAt w w1 v n l) : RetRLaid w b pv ⟨l, s.past⟩ (.returned (.tuple #[])) (w1.setCell ⟨b, 0, none⟩ v) := by
  have hbw := lt_of_at h.hd
  have hb1 : w1.heap[b]? = some (.cells #[lv, pv] 59 (0, 0)) := by rw [hO.2.2.block b hbw]; exact h.hd
  have hF : Fr (fun k => k = b) w (w1.setCell ⟨b, 0, none⟩ v) := (Fr.of_below hO.2.2 _).setCell _ _ (.inr rfl)
  have hne : ∀ g, v.ownBlock = some g → g ≠ b := fun g hg e => by have := hO.2.1 g hg; omega
  have hnd := h.nd
  refine ⟨rfl, v, ⟨?_, ?_, ?_, hs, ?_⟩, hO.2.1, hF⟩
  · rw [setCell_eq_setRow w1 b 0 _ _ _ v hb1]; exact setRow_heap w1 b _ _ _ _ hb1
  · show Own _ _ _ _ l.length _
    rw [hO.len]
    exact hO.1.frame fun k hk => Below.heap_setCell _ _ _ _ (fun e => hne k hk e)
  · exact h.ps.fr hF fun k hk e => by subst e; simp [hk] at hnd
  · have h1 : ∀ g, pv.ownBlock = some g → g ≠ b := fun g hg e => by subst e; simp [hg] at hnd
    have h2 : ∀ g g', v.ownBlock = some g → pv.ownBlock = some g' → g ≠ g' := fun g g' hg hg' e => by
      have := hO.2.1 g hg
      have := h.ps.lt g' hg'
      omega
    cases hv : v.ownBlock <;> cases hp : pv.ownBlock <;> simp
    · exact fun e => h1 _ hp e.symm
    · exact fun e => hne _ hv e.symm
    · exact ⟨⟨fun e => hne _ hv e.symm, fun e => h1 _ hp e.symm⟩, h2 _ _ hv hp⟩

theorem two_one (a b : ByteArray) : ∀ u ∈ [Value.string a, Value.string b], u.oneCell' = true := by
  intro u hu
  simp at hu
  rcases hu with rfl | rfl <;> rfl
theorem news_two (w : World) (x y : Value) (t : TypeId) : ∀ j u, [x, y][j]? = some u → (w.alloc (.cells #[x, y] t)).cell? ((⟨w.heap.size, 0, none⟩ : Addr).add j) = some u := fun j u hj => by
  rw [Addr.add_lit, cell_of_row _ _ _ _ _ _ (heap_alloc_new w _)]
  simpa using hj

set_option maxRecDepth 100000 in
set_option maxHeartbeats 8000000 in
theorem rlay_at (w : World) (b : Nat) (s : St) (lv pv : Value) (key val : ByteArray) (there : Bool) (h : RAt w b lv pv s) (hn : s.ents.length < 1000000000000) :
    Calls Try.prog 94 #[.pointer (some ⟨b, 0, none⟩), .string key, .string val, .bool there] w (RetRLaid w b pv (s.lay key val there)) := by
  have HP := Lib.hid (rplace_any w b s lv pv key h hn)
  have hH := h
  obtain ⟨ad, c, rfl, hE⟩ := h.ents
  have hle := lb_le (s.ents.map Prod.fst) key
  rw [List.length_map] at hle
  have hc0 := hE.hd
  have hfz : ∀ w1, Below w.heap.size w w1 → w1.frozen? ⟨b, 0, none⟩ = false := fun w1 hb => frozen_of_row w1 b 0 _ _ (by rw [hb.block b (lt_of_at h.hd)]; exact h.hd)
  have hcb : ∀ w1, Below w.heap.size w w1 → w1.cell? ⟨b, 0, none⟩ = some (.slice ad s.ents.length c) := fun w1 hb => by rw [hb.cell (p := ⟨b, 0, none⟩) (lt_of_at h.hd)]; exact hc0
  have HFZ := Lib.hid hfz
  have HCB := Lib.hid hcb
  -- the two cuts
  obtain ⟨HB1, HB2⟩ := run_slice_begin pairT h.ls rfl (lb (s.ents.map Prod.fst) key) hle
  -- what is there at the place
  obtain ⟨is, i2, m2, hreg, hi2, hm2, hents⟩ : ∃ (is : Bool) (i2 : Int) (m2 : Nat),
      ((lb (s.ents.map Prod.fst) key < s.ents.length ∧ ∃ g y, ad = some ⟨g, 0, none⟩ ∧ w.cell? ⟨g, lb (s.ents.map Prod.fst) key * 2, none⟩ = some (.string y) ∧ (y.toList == key.toList) = is) ∨ (¬ lb (s.ents.map Prod.fst) key < s.ents.length ∧ is = false)) ∧
      i2 = (if is then ((lb (s.ents.map Prod.fst) key : Nat) : Int) + 1 else (lb (s.ents.map Prod.fst) key : Nat)) ∧ (i2 = (m2 : Int) ∧ m2 ≤ s.ents.length) ∧
      layE s.ents key val there = s.ents.take (lb (s.ents.map Prod.fst) key) ++ (if there then [(key, val)] else []) ++ s.ents.drop m2 := by
    cases hg : (getE s.ents key).isSome with
    | true =>
      obtain ⟨v, hv⟩ := Option.isSome_iff_exists.1 hg
      obtain ⟨hlt, hat⟩ := lb_at h.srt.keys (List.mem_map.2 ⟨_, getE_mem hv, rfl⟩ : key ∈ s.ents.map Prod.fst)
      have hlt' : lb (s.ents.map Prod.fst) key < s.ents.length := by simpa using hlt
      obtain ⟨x, hx⟩ : ∃ x, s.ents[lb (s.ents.map Prod.fst) key]? = some x := ⟨_, List.getElem?_eq_getElem hlt'⟩
      have hx1 : x.1 = key := by
        rw [List.getElem_map] at hat
        rw [← hat]
        have := (List.getElem?_eq_some_iff.1 hx).2
        rw [this]
      obtain ⟨g, h1, h2, _⟩ := hE.at0 _ x hx
      exact ⟨true, _, lb (s.ents.map Prod.fst) key + 1, .inl ⟨hlt', g, x.1, h1, h2, by rw [hx1]; simp⟩, rfl, ⟨by simp, hlt'⟩, layE_in h.srt val there hg⟩
    | false =>
      by_cases hlt : lb (s.ents.map Prod.fst) key < s.ents.length
      · obtain ⟨x, hx⟩ : ∃ x, s.ents[lb (s.ents.map Prod.fst) key]? = some x := ⟨_, List.getElem?_eq_getElem hlt⟩
        obtain ⟨g, h1, h2, _⟩ := hE.at0 _ x hx
        refine ⟨false, _, lb (s.ents.map Prod.fst) key, .inl ⟨hlt, g, x.1, h1, h2, ?_⟩, rfl, ⟨by simp, hle⟩, layE_out h.srt val there hg⟩
        rw [toList_beq, decide_eq_false_iff_not]
        intro e
        have hno := getE_none.1 (by simpa using hg : getE s.ents key = none)
        exact hno (List.mem_map.2 ⟨x, List.mem_of_getElem? hx, e⟩)
      · exact ⟨false, _, lb (s.ents.map Prod.fst) key, .inr ⟨hlt, rfl⟩, rfl, ⟨by simp, hle⟩, layE_out h.srt val there hg⟩
  obtain ⟨ad2, c2, HE1, HE2⟩ := run_slice_end pairT h.ls rfl m2 hm2.2
  rw [pairV_take] at HB2
  rw [pairV_drop] at HE2
  rw [← hm2.1] at HE1
  have hsrt : Sorted (layE s.ents key val there) := layE_sorted h.srt key val there
  have hEND : ∀ w1 v n, OutAt w w1 v n (s.ents.take (lb (s.ents.map Prod.fst) key) ++ (if there then [(key, val)] else []) ++ s.ents.drop m2) → RetRLaid w b pv (s.lay key val there) (.returned (.tuple #[])) (w1.setCell ⟨b, 0, none⟩ v) := fun w1 v n hO => by
    rw [← hents] at hO
    exact rlay_end hH hsrt hO
  have hmx1 : lb (s.ents.map Prod.fst) key + 1 ≤ maxLen := by unfold maxLen; omega
  have hmx2 : lb (s.ents.map Prod.fst) key + (s.ents.length - m2) ≤ maxLen := by unfold maxLen; omega
  have hmx3 : lb (s.ents.map Prod.fst) key + 1 + (s.ents.length - m2) ≤ maxLen := by unfold maxLen; omega
  have hmx : 0 + lb (s.ents.map Prod.fst) key ≤ maxLen := by unfold maxLen; omega
  have H1 : Hid (∀ w1 v1, Appended w 39 2 (.slice none 0 0) 0 (lb (s.ents.map Prod.fst) key) [] (pairV (s.ents.take (lb (s.ents.map Prod.fst) key))) v1 w1 → OutAt w w1 v1 (lb (s.ents.map Prod.fst) key) (s.ents.take (lb (s.ents.map Prod.fst) key))) := fun w1 v1 hA => by
    have := (OutAt.start w).next (l2 := s.ents.take (lb (s.ents.map Prod.fst) key)) hA
    simpa using this
  have H2 : Hid (∀ w1 v1, OutAt w w1 v1 (lb (s.ents.map Prod.fst) key) (s.ents.take (lb (s.ents.map Prod.fst) key)) → ∀ w2 v2, Appended (w1.alloc (.cells #[.string key, .string val] 39)) 39 2 v1 (lb (s.ents.map Prod.fst) key) 1 (pairV (s.ents.take (lb (s.ents.map Prod.fst) key))) [.string key, .string val] v2 w2 → OutAt w w2 v2 (lb (s.ents.map Prod.fst) key + 1) (s.ents.take (lb (s.ents.map Prod.fst) key) ++ [(key, val)])) := fun w1 v1 hO w2 v2 hA =>
    (hO.alloc _).next (l2 := [(key, val)]) hA
  have H3 : Hid (∀ w1 v1 n l, OutAt w w1 v1 n l → ∀ w2 v2, Appended w1 39 2 v1 n (s.ents.length - m2) (pairV l) (pairV (s.ents.drop m2)) v2 w2 → OutAt w w2 v2 (n + (s.ents.length - m2)) (l ++ s.ents.drop m2)) := fun w1 v1 n l hO w2 v2 hA => hO.next hA
  have HSRC : Hid (∀ w1, Below w.heap.size w w1 → Src w1 2 (.slice ad2 (s.ents.length - m2) c2) (s.ents.length - m2) (pairV (s.ents.drop m2))) := fun w1 hb => HE2.below hb
  have HFORM : Hid (∀ w1 v1 n l, OutAt w w1 v1 n l → ∃ a c, v1 = .slice a n c) := fun w1 v1 n l hO => by
    obtain ⟨_, a, c, h, _⟩ := hO.1.src
    exact ⟨a, c, h⟩
  have HEND := Lib.hid hEND
  have HB1' := Lib.hid HB1
  have HB2' := Lib.hid HB2
  have HE1' := Lib.hid HE1
  have hm2n := hm2.2
  have hpl : (pairV (s.ents.take (lb (s.ents.map Prod.fst) key))).length = lb (s.ents.map Prod.fst) key * 2 := by rw [pairV_len, List.length_take, Nat.min_eq_left hle]
  have HPL := Lib.hid hpl
  clear hE hH hfz hcb HB1 HB2 HE1 HE2 hEND hsrt hents hm2 hpl h
  generalize s.lay key val there = s' at *
  generalize s.ents.take (lb (s.ents.map Prod.fst) key) = T1 at *
  generalize s.ents.drop m2 = T2 at *
  generalize lb (s.ents.map Prod.fst) key = m at *
  generalize s.ents.length = n at *
  cases is <;> cases there
  all_goals
    simp only [if_true, Bool.false_eq_true, if_false] at hi2
    subst hi2
    rcases hreg with ⟨hlt, g, y, rfl, hcy, hyk⟩ | ⟨hlt, hfalse⟩
  all_goals first | (cases hfalse; done) | skip
  all_goals
    go_enter Try.func94, Try.ntmps94
    go_wp2_with (first | (go_at_call 104; refine HP.out.mono ?_; rintro e w' ⟨rfl, rfl⟩) | (with_reducible refine wpList_value (o := ⟨some 39, _, _, _, _, _⟩) rfl (.slice _ m c) w (exec_slice rfl rfl (HB1'.out w)) ?_) | (at_builtin; refine wpList_append_src rfl _ _ 35 35 rfl pairT pairT _ 0 [] rfl (Own.nil _ _ _) _ m _ rfl HB2'.out (pairV_one _) hmx (by omega) ?_))
  all_goals
    intro v1 w1 hA1
    have HO1 := Lib.hid (H1.out w1 v1 hA1)
    clear hA1
    obtain ⟨a1, c1, rfl⟩ := HFORM.out _ _ _ _ HO1.out
  all_goals
    have hcw := HCB.out w1 HO1.out.2.2
    have hfw := HFZ.out w1 HO1.out.2.2
    first
      | (go_wp2_with (at_builtin; refine wpList_append_Own (o := ⟨some 47, _, _, _, _, _⟩) rfl (.tmp 42) (.tmp 46) 35 35 rfl pairT pairT _ m (pairV T1) rfl (HO1.out.alloc _).1 _ 1 _ [.string key, .string val] rfl rfl (news_two _ _ _ _) (two_one _ _) hmx1 (by omega) ?_)
         intro v2 w2 hA2
         have HO2 := Lib.hid (H2.out _ _ HO1.out w2 v2 hA2)
         clear hA2 hcw hfw
         obtain ⟨a2, c2', rfl⟩ := HFORM.out _ _ _ _ HO2.out
         have hcw := HCB.out w2 HO2.out.2.2
         have hfw := HFZ.out w2 HO2.out.2.2
         go_wp2_with (first | (with_reducible refine wpList_value (o := ⟨some 57, _, _, _, _, _⟩) rfl (.slice ad2 (n - m2) c2) w2 (exec_slice rfl rfl (HE1'.out w2)) ?_) | (at_builtin; refine wpList_append_src (o := ⟨some 58, _, _, _, _, _⟩) rfl (.tmp 51) (.tmp 57) 35 35 rfl pairT pairT _ (m + 1) _ rfl HO2.out.1 _ (n - m2) (pairV T2) rfl (HSRC.out w2 HO2.out.2.2) (pairV_one _) hmx3 (by omega) ?_))
         intro v3 w3 hA3
         have HO3 := Lib.hid (H3.out _ _ _ _ HO2.out w3 v3 hA3))
      | (go_wp2_with (first | (with_reducible refine wpList_value (o := ⟨some 57, _, _, _, _, _⟩) rfl (.slice ad2 (n - m2) c2) w1 (exec_slice rfl rfl (HE1'.out w1)) ?_) | (at_builtin; refine wpList_append_src (o := ⟨some 58, _, _, _, _, _⟩) rfl (.tmp 51) (.tmp 57) 35 35 rfl pairT pairT _ m (pairV T1) rfl HO1.out.1 _ (n - m2) (pairV T2) rfl (HSRC.out w1 HO1.out.2.2) (pairV_one _) hmx2 (by omega) ?_))
         intro v3 w3 hA3
         have HO3 := Lib.hid (H3.out _ _ _ _ HO1.out w3 v3 hA3))
  all_goals
    clear hA3 hcw hfw
    obtain ⟨a3, c3, rfl⟩ := HFORM.out _ _ _ _ HO3.out
    have hcw := HCB.out w3 HO3.out.2.2
    have hfw := HFZ.out w3 HO3.out.2.2
    have hE := HEND.out w3 _ _ (by simpa using HO3.out)
    have HE := Lib.hid hE
    clear hE
    go_wp2
    go_end0
    exact HE.out
end Go.Proofs.Ytgnnnjabgoadaaa
