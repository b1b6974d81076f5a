/- What is proved here: what the service laws' states keep: each set has at most eight strategies, each known, none of a set that is not there. No program is walked. No condition. -/
import Derived.Test.YtnblhjndngpbnaaGreatServJ
namespace Go.Proofs.YtnblhjndngpbnaaGreat
open Go.RowKit

theorem ints_as {ls : List Int} (h : ∀ x ∈ ls, 0 ≤ x) : asInts (ls.map (·.toNat)) = ls := by
  unfold asInts
  rw [List.map_map]
  refine (List.map_congr_left (g := id) fun x hx => ?_).trans (List.map_id _)
  have := h x hx
  simp; omega
theorem key_pos {t : Nat} {ls : List Int} (h : keyL t ls ≠ emptyB) : ∀ x ∈ ls, 0 ≤ x := fun x hx => by
  refine Decidable.byContradiction fun hn => h ?_
  exact keyL_neg hx (by omega)
theorem key_inj_i {t u : Nat} (ht1 : 1 ≤ t) (ht : t ≤ 255) (hu1 : 1 ≤ u) (hu : u ≤ 255) {ls ms : List Int} (hl : ∀ x ∈ ls, 0 ≤ x ∧ x < 9223372036854775808) (hm : ∀ x ∈ ms, 0 ≤ x ∧ x < 9223372036854775808) (h : keyL t ls = keyL u ms) : t = u ∧ ls = ms := by
  have e1 := ints_as fun x hx => (hl x hx).1
  have e2 := ints_as fun x hx => (hm x hx).1
  rw [← e1, ← e2] at h
  obtain ⟨h1, h2⟩ := keyL_inj ht1 ht hu1 hu (fun x hx => by obtain ⟨y, hy, rfl⟩ := List.mem_map.1 hx; have := hl y hy; omega) (fun x hx => by obtain ⟨y, hy, rfl⟩ := List.mem_map.1 hx; have := hm y hy; omega) h
  refine ⟨h1, ?_⟩
  rw [← e1, ← e2, h2]
/-- Keys of unlike tables, or of unlike many numbers, are unlike. -/
theorem key_ne {t u : Nat} (ht1 : 1 ≤ t) (ht : t ≤ 255) (hu1 : 1 ≤ u) (hu : u ≤ 255) {ls ms : List Int} (hd : t ≠ u ∨ ls.length ≠ ms.length) (hl : ∀ x ∈ ls, x < 9223372036854775808) (hm : ∀ x ∈ ms, x < 9223372036854775808) (hk : keyL t ls ≠ emptyB) : keyL t ls ≠ keyL u ms := fun e => by
  have hp := key_pos hk
  have hq := key_pos (e ▸ hk)
  obtain ⟨h1, h2⟩ := key_inj_i ht1 ht hu1 hu (fun x hx => ⟨hp x hx, hl x hx⟩) (fun x hx => ⟨hq x hx, hm x hx⟩) e
  rcases hd with h | h
  · exact h h1
  · exact h (by rw [h2])

theorem key_ne_tab {t u : Nat} {ls ms : List Int} (ht : UInt8.ofNat t ≠ UInt8.ofNat u) (hk : keyL t ls ≠ emptyB) : keyL t ls ≠ keyL u ms := fun e => by
  have hp := key_pos hk
  have hq := key_pos (e ▸ hk)
  have h1 : (keyL t ls).data.toList = (keyL u ms).data.toList := by rw [e]
  rw [keyL_pos fun x hx => by have := hp x hx; omega, keyL_pos fun x hx => by have := hq x hx; omega] at h1
  exact ht (List.cons.inj h1).1

/-- What is read behind a put. -/
theorem get_put {s : St} (hs : Sorted s.ents) {k v : ByteArray} (hk : k ≠ emptyB) (hv : v ≠ emptyB) (j : ByteArray) : getE (s.put k v).ents j = if k = j then some v else getE s.ents j := by
  unfold St.put
  rw [if_neg hv, if_neg hk]
  unfold St.set
  by_cases hg : getE s.ents k = some v
  · rw [if_pos hg]
    by_cases e : k = j
    · subst e; rw [if_pos rfl]; exact hg
    · rw [if_neg e]
  · rw [if_neg hg]
    exact getE_putE _ hs k v j
theorem put_none {s : St} {v : ByteArray} (hv : v ≠ emptyB) : s.put emptyB v = s := by
  unfold St.put; rw [if_neg hv, if_pos rfl]
theorem get_del {s : St} (hs : Sorted s.ents) {k j v : ByteArray} (h : getE (s.del k).ents j = some v) : getE s.ents j = some v := by
  unfold St.del at h
  split at h
  · simp only [getE_delE _ hs] at h
    split at h
    · cases h
    · exact h
  · exact h
theorem val_del {s : St} (hs : Sorted s.ents) {k j : ByteArray} (h : k ≠ j) : (s.del k).val j = s.val j := by
  unfold St.val St.del
  split
  · simp only [getE_delE _ hs, if_neg h]
  · rfl

/-- What an entry gives a set. -/
def fU (a n : Int) (x : Ent) : Option Int := if isPre (keyL 23 [a, n]) x.1 then thirdOf x else none
theorem filter_map_f {α β : Type} (p : α → Bool) (f : α → Option β) : ∀ l : List α, (l.filter p).filterMap f = l.filterMap fun x => if p x then f x else none
  | [] => rfl
  | x :: l => by
    rw [List.filter_cons, List.filterMap_cons]
    cases hp : p x with
    | true =>
      simp only [if_true]
      rw [List.filterMap_cons, filter_map_f p f l]
    | false =>
      simp only [Bool.false_eq_true, if_false]
      exact filter_map_f p f l
theorem strU_eq (s : St) (a n : Int) : strU s a n = s.ents.filterMap (fU a n) := filter_map_f _ _ _
theorem fU_key (a n : Int) (x y : Ent) (h : x.1 = y.1) : fU a n x = fU a n y := by
  unfold fU thirdOf; rw [h]

theorem putE_flen (f : Ent → Option Int) (hf : ∀ x y : Ent, x.1 = y.1 → f x = f y) (k v : ByteArray) : ∀ l : List Ent, ((putE l k v).filterMap f).length ≤ (l.filterMap f).length + (if (f (k, v)).isSome then 1 else 0)
  | [] => by
    show ([(k, v)].filterMap f).length ≤ _
    rw [List.filterMap_cons]
    cases f (k, v) <;> simp
  | (a, b) :: r => by
    have ih := putE_flen f hf k v r
    unfold putE
    split
    · rw [List.filterMap_cons, List.filterMap_cons]
      cases f (a, b) with
      | none => exact ih
      | some u => simp only [List.length_cons]; omega
    · split
      · rename_i e
        rw [List.filterMap_cons, List.filterMap_cons, hf (k, v) (a, b) e.symm]
        cases f (a, b) <;> simp
      · rw [List.filterMap_cons (a := (k, v))]
        cases f (k, v) <;> simp
theorem delE_flen (f : Ent → Option Int) (k : ByteArray) : ∀ l : List Ent, ((delE l k).filterMap f).length ≤ (l.filterMap f).length
  | [] => Nat.le_refl _
  | (a, b) :: r => by
    have ih := delE_flen f k r
    unfold delE
    split
    · rw [List.filterMap_cons]
      cases f (a, b) <;> simp
    · rw [List.filterMap_cons, List.filterMap_cons]
      cases f (a, b) with
      | none => exact ih
      | some u => simp only [List.length_cons]; omega
theorem strU_del (s : St) (k : ByteArray) (a n : Int) : (strU (s.del k) a n).length ≤ (strU s a n).length := by
  rw [strU_eq, strU_eq]
  unfold St.del
  split
  · exact delE_flen _ _ _
  · exact Nat.le_refl _
theorem strU_put (s : St) (k v : ByteArray) (a n : Int) : (strU (s.put k v) a n).length ≤ (strU s a n).length + (if (fU a n (k, v)).isSome then 1 else 0) := by
  unfold St.put
  split
  · exact Nat.le_trans (strU_del s k a n) (Nat.le_add_right _ _)
  · split
    · exact Nat.le_add_right _ _
    · rw [strU_eq, strU_eq]
      unfold St.set
      split
      · exact Nat.le_add_right _ _
      · exact putE_flen _ (fU_key a n) _ _ _

theorem nums3_key {t : Nat} (ht1 : 1 ≤ t) (ht : t ≤ 255) {ls : List Int} (hl : ∀ x ∈ ls, 0 ≤ x ∧ x < 9223372036854775808) : nums3 (keyL t ls) = match ls.map (·.toNat) with | [x, y, z] => some (x, y, z) | _ => none := by
  have hp : parseK (keyL t ls) = some (t, ls.map (·.toNat)) := by
    have := parse_keyL (ns := ls.map (·.toNat)) ht1 ht fun x hx => by obtain ⟨y, hy, rfl⟩ := List.mem_map.1 hx; have := hl y hy; omega
    rw [ints_as fun x hx => (hl x hx).1] at this
    exact this
  unfold nums3
  rw [hp]
  generalize ls.map (·.toNat) = ns
  rcases ns with _ | ⟨_, _ | ⟨_, _ | ⟨_, _ | ⟨_, _⟩⟩⟩⟩ <;> rfl

/-- What a set's state keeps. -/
structure SInv (s : St) : Prop where
  good : SGood s
  len : ∀ a n : Int, 0 ≤ a → a < 9223372036854775808 → 0 ≤ n → n < 9223372036854775808 → (strU s a n).length ≤ 8
  ent : ∀ (a n g : Int) (v : ByteArray), 0 ≤ a → a < 9223372036854775808 → 0 ≤ n → n < 9223372036854775808 → 0 ≤ g → g < 9223372036854775808 → getE s.ents (keyL 23 [a, n, g]) = some v → v = numB 1 ∧ n < (sSets s a : Int) ∧ sKnown s g = true

theorem sKnown_put {s : St} (hs : Sorted s.ents) {k v : ByteArray} (hk : k ≠ emptyB) {g : Int} (hn : k ≠ keyL 5 [g]) : sKnown (s.put k v) g = sKnown s g := by
  unfold sKnown sInfo
  rw [val_put s hs k v _ hk, if_neg hn]
theorem sSets_put {s : St} (hs : Sorted s.ents) {k v : ByteArray} (hk : k ≠ emptyB) {a : Int} (hn : k ≠ keyL 22 [a]) : sSets (s.put k v) a = sSets s a := by
  unfold sSets St.int
  rw [val_put s hs k v _ hk, if_neg hn]
theorem sKnown_del {s : St} (hs : Sorted s.ents) {k : ByteArray} {g : Int} (hn : k ≠ keyL 5 [g]) : sKnown (s.del k) g = sKnown s g := by
  unfold sKnown sInfo
  rw [val_del hs hn]
theorem sSets_del {s : St} (hs : Sorted s.ents) {k : ByteArray} {a : Int} (hn : k ≠ keyL 22 [a]) : sSets (s.del k) a = sSets s a := by
  unfold sSets St.int
  rw [val_del hs hn]

/-- A put at a key that is no set's. -/
theorem SInv.other {s : St} (h : SInv s) {k v : ByteArray} (hk : k.size ≤ 100) (hv : v ≠ emptyB) (h3 : k ≠ emptyB → nums3 k = none) (hsets : k ≠ emptyB → ∀ a, sSets s a ≤ sSets (s.put k v) a) (hkn : k ≠ emptyB → ∀ g, sKnown s g = true → sKnown (s.put k v) g = true) : SInv (s.put k v) := by
  by_cases hke : k = emptyB
  · subst hke; rw [put_none hv]; exact h
  · refine ⟨h.good.put hk v, fun a n ha0 ha hn0 hn => ?_, fun a n g u ha0 ha hn0 hn hg0 hg hu => ?_⟩
    · have h1 := strU_put s k v a n
      have h2 : fU a n (k, v) = none := by unfold fU thirdOf; simp only; rw [h3 hke]; simp
      rw [h2] at h1
      exact Nat.le_trans h1 (h.len a n ha0 ha hn0 hn)
    · rw [get_put h.good.1 hke hv] at hu
      have hne : k ≠ keyL 23 [a, n, g] := fun e => by
        have := nums3_key (t := 23) (by decide) (by decide) (ls := [a, n, g]) (by
          intro x hx
          simp only [List.mem_cons, List.not_mem_nil, or_false] at hx
          rcases hx with rfl | rfl | rfl <;> constructor <;> assumption)
        rw [← e, h3 hke] at this
        cases this
      rw [if_neg hne] at hu
      obtain ⟨h1, h2, h3⟩ := h.ent a n g u ha0 ha hn0 hn hg0 hg hu
      exact ⟨h1, by have := hsets hke a; omega, hkn hke g h3⟩

theorem lt3 {a n g : Int} (ha : a < 9223372036854775808) (hn : n < 9223372036854775808) (hg : g < 9223372036854775808) : ∀ x ∈ [a, n, g], x < 9223372036854775808 := by
  intro x hx
  simp only [List.mem_cons, List.not_mem_nil, or_false] at hx
  rcases hx with rfl | rfl | rfl <;> assumption
theorem lt1 {a : Int} (ha : a < 9223372036854775808) : ∀ x ∈ [a], x < 9223372036854775808 := fun x hx => by rw [List.mem_singleton.1 hx]; exact ha

/-- Keys of sets that stand under one another are one set's. -/
theorem fU_set {a n g a' n' : Int} {v : ByteArray} (ha0 : 0 ≤ a) (ha : a < 9223372036854775808) (hn0 : 0 ≤ n) (hn : n < 9223372036854775808) (hg0 : 0 ≤ g) (hg : g < 9223372036854775808) (ha0' : 0 ≤ a') (ha' : a' < 9223372036854775808) (hn0' : 0 ≤ n') (hn' : n' < 9223372036854775808) (h : (fU a' n' (keyL 23 [a, n, g], v)).isSome = true) : a' = a ∧ n' = n := by
  unfold fU at h
  split at h
  · rename_i hp
    have e1 : keyL 23 [a', n'] = keyL 23 (asInts [a'.toNat, n'.toNat]) := by
      have e2 : asInts [a'.toNat, n'.toNat] = [a', n'] := by simp [asInts]; omega
      rw [e2]
    have e3 : keyL 23 [a, n, g] = keyL 23 (asInts [a.toNat, n.toNat, g.toNat]) := by
      have e2 : asInts [a.toNat, n.toNat, g.toNat] = [a, n, g] := by simp [asInts]; omega
      rw [e2]
    simp only at hp
    rw [e1, e3] at hp
    obtain ⟨_, h1, h2⟩ := pre23 (by omega) (by omega) (by omega) (by omega) hp
    omega
  · cases h

theorem numB1_ne : numB 1 ≠ emptyB := numB_ne 1
theorem setInt_one (s : St) (k : ByteArray) : s.setInt k 1 = s.put k (numB 1) := rfl

/-- One strategy more. -/
theorem SInv.putS {s : St} (h : SInv s) {a n g : Int} (ha : a < 9223372036854775808) (hn : n < 9223372036854775808) (hg : g < 9223372036854775808) (hset : n < (sSets s a : Int)) (hk : sKnown s g = true) (hlen : (strU s a n).length < 8) : SInv (s.setInt (keyL 23 [a, n, g]) 1) := by
  rw [setInt_one]
  by_cases hke : keyL 23 [a, n, g] = emptyB
  · rw [hke, put_none numB1_ne]; exact h
  · have hp := key_pos hke
    have ha0 := hp a (by simp)
    have hn0 := hp n (by simp)
    have hg0 := hp g (by simp)
    have hne22 : ∀ a' : Int, a' < 9223372036854775808 → keyL 23 [a, n, g] ≠ keyL 22 [a'] := fun a' h' => key_ne (by decide) (by decide) (by decide) (by decide) (.inl (by decide)) (lt3 ha hn hg) (lt1 h') hke
    have hne5 : ∀ g' : Int, g' < 9223372036854775808 → keyL 23 [a, n, g] ≠ keyL 5 [g'] := fun g' h' => key_ne (by decide) (by decide) (by decide) (by decide) (.inl (by decide)) (lt3 ha hn hg) (lt1 h') hke
    refine ⟨h.good.put (key_short 23 _ (by simp)) _, fun a' n' ha0' ha' hn0' hn' => ?_, fun a' n' g' u ha0' ha' hn0' hn' hg0' hg' hu => ?_⟩
    · have h1 := strU_put s (keyL 23 [a, n, g]) (numB 1) a' n'
      by_cases hs : (fU a' n' (keyL 23 [a, n, g], numB 1)).isSome = true
      · obtain ⟨rfl, rfl⟩ := fU_set ha0 ha hn0 hn hg0 hg ha0' ha' hn0' hn' hs
        rw [if_pos hs] at h1
        omega
      · rw [if_neg hs] at h1
        exact Nat.le_trans h1 (h.len a' n' ha0' ha' hn0' hn')
    · rw [get_put h.good.1 hke numB1_ne] at hu
      rw [sSets_put h.good.1 hke (hne22 a' ha'), sKnown_put h.good.1 hke (hne5 g' hg')]
      by_cases e : keyL 23 [a, n, g] = keyL 23 [a', n', g']
      · rw [if_pos e] at hu
        cases hu
        obtain ⟨_, e2⟩ := key_inj_i (by decide) (by decide) (by decide) (by decide) (fun x hx => ⟨hp x hx, lt3 ha hn hg x hx⟩) (fun x hx => by
          simp only [List.mem_cons, List.not_mem_nil, or_false] at hx
          rcases hx with rfl | rfl | rfl <;> constructor <;> assumption) e
        cases e2
        exact ⟨rfl, hset, hk⟩
      · rw [if_neg e] at hu
        exact h.ent a' n' g' u ha0' ha' hn0' hn' hg0' hg' hu
theorem putL_inv {a n : Int} (ha : a < 9223372036854775808) (hn : n < 9223372036854775808) : ∀ (l : List Int) {s : St}, SInv s → n < (sSets s a : Int) → (∀ g ∈ l, g < 9223372036854775808 ∧ sKnown s g = true) → (strU s a n).length + l.length ≤ 8 → SInv (putL s a n l)
  | [], _, h, _, _, _ => h
  | g :: l, s, h, hset, hk, hlen => by
    have hg := hk g (by simp)
    simp only [List.length_cons] at hlen
    have h1 : SInv (s.setInt (keyL 23 [a, n, g]) 1) := h.putS ha hn hg.1 hset hg.2 (by omega)
    refine putL_inv ha hn l h1 ?_ (fun g' hg' => ⟨(hk g' (by simp [hg'])).1, ?_⟩) ?_
    · rw [setInt_one]
      by_cases hke : keyL 23 [a, n, g] = emptyB
      · rw [hke, put_none numB1_ne]; exact hset
      · rw [sSets_put h.good.1 hke (key_ne (by decide) (by decide) (by decide) (by decide) (.inl (by decide)) (lt3 ha hn hg.1) (lt1 ha) hke)]
        exact hset
    · rw [setInt_one]
      have hgk := hk g' (by simp [hg'])
      by_cases hke : keyL 23 [a, n, g] = emptyB
      · rw [hke, put_none numB1_ne]; exact hgk.2
      · rw [sKnown_put h.good.1 hke (key_ne (by decide) (by decide) (by decide) (by decide) (.inl (by decide)) (lt3 ha hn hg.1) (lt1 hgk.1) hke)]
        exact hgk.2
    · have h2 := strU_put s (keyL 23 [a, n, g]) (numB 1) a n
      rw [setInt_one]
      split at h2 <;> omega

/-- A set that is not yet there has nothing. -/
theorem SInv.fresh {s : St} (h : SInv s) {a n : Int} (ha0 : 0 ≤ a) (ha : a < 9223372036854775808) (hn0 : 0 ≤ n) (hn : n < 9223372036854775808) (hset : (sSets s a : Int) ≤ n) : strU s a n = [] := by
  rw [List.eq_nil_iff_forall_not_mem]
  intro z hz
  obtain ⟨e, he, hez⟩ := List.mem_filterMap.1 hz
  unfold thirdOf at hez
  rw [Option.map_eq_some_iff] at hez
  obtain ⟨p, hp, rfl⟩ := hez
  obtain ⟨y, e1, l1, k1⟩ := third_key ha0 ha hn0 hn he hp
  have hmem : e ∈ s.ents := (List.mem_filter.1 he).1
  have e2 : asInts [a.toNat, n.toNat, y] = [a, n, (y : Int)] := by simp [asInts]; omega
  rw [e2] at k1
  have hg := getE_of_mem h.good.1 (k := e.1) (v := e.2) hmem
  rw [k1] at hg
  have := (h.ent a n y e.2 ha0 ha hn0 hn (by omega) (by omega) hg).2.1
  omega

theorem sIs_pos {s : St} (hE : NoE s) {a : Int} (h : sIs s a = true) : 0 ≤ a := by
  refine Decidable.byContradiction fun hno => ?_
  have he : keyL 21 [a] = emptyB := keyL_neg (n := a) (List.mem_singleton.2 rfl) (by omega)
  unfold sIs St.int at h
  rw [he, show s.val emptyB = emptyB from hE, intOfV_empty] at h
  cases h

theorem SInv.empty : SInv emptySt := ⟨SGood.empty, fun a n _ _ _ _ => by
  have : strU emptySt a n = [] := rfl
  rw [this]; exact Nat.zero_le _, fun a n g v _ _ _ _ _ _ h => by cases h⟩

theorem nums3_one {t : Nat} (ht1 : 1 ≤ t) (ht : t ≤ 255) {a : Int} (ha : a < 9223372036854775808) (hk : keyL t [a] ≠ emptyB) : nums3 (keyL t [a]) = none := by
  rw [nums3_key ht1 ht fun x hx => ⟨key_pos hk x hx, lt1 ha x hx⟩]; rfl

theorem numB_some (n : Nat) : numB n ≠ emptyB := numB_ne n

/-- One set more: its number. -/
theorem SInv.next {s : St} (h : SInv s) {a : Int} (ha : a < 9223372036854775808) (h16 : sSets s a < 16) : SInv (s.setInt (keyL 22 [a]) ((sSets s a : Nat) + 1 : Int)) ∧ (keyL 22 [a] ≠ emptyB → (sSets (s.setInt (keyL 22 [a]) ((sSets s a : Nat) + 1 : Int)) a) = sSets s a + 1) ∧ ∀ g, g < 9223372036854775808 → sKnown s g = true → sKnown (s.setInt (keyL 22 [a]) ((sSets s a : Nat) + 1 : Int)) g = true := by
  have e : s.setInt (keyL 22 [a]) ((sSets s a : Nat) + 1 : Int) = s.put (keyL 22 [a]) (numB (sSets s a + 1)) := by
    unfold St.setInt
    rw [if_neg (by omega)]
    rfl
  have hsame : keyL 22 [a] ≠ emptyB → sSets (s.setInt (keyL 22 [a]) ((sSets s a : Nat) + 1 : Int)) a = sSets s a + 1 := fun hk => by
    unfold sSets
    rw [int_setInt s h.good.1 _ _ hk _ (by have : s.int (keyL 22 [a]) = sSets s a := rfl; omega), if_pos rfl]
    omega
  have hkn : keyL 22 [a] ≠ emptyB → ∀ g, sKnown s g = true → sKnown (s.put (keyL 22 [a]) (numB (sSets s a + 1))) g = true := fun hk g hg => by
    rw [sKnown_put h.good.1 hk (key_ne_tab (by decide) hk)]; exact hg
  refine ⟨?_, hsame, fun g hgM hg => ?_⟩
  · rw [e]
    refine h.other (key_short 22 _ (by simp)) (numB_some _) (fun hk => nums3_one (by decide) (by decide) ha hk) (fun hk a' => ?_) hkn
    by_cases ea : keyL 22 [a] = keyL 22 [a']
    · have : sSets (s.put (keyL 22 [a]) (numB (sSets s a + 1))) a' = sSets (s.put (keyL 22 [a]) (numB (sSets s a + 1))) a := by unfold sSets; rw [ea]
      rw [this, ← e, hsame hk]
      have h2 : sSets s a' = sSets s a := by unfold sSets; rw [ea]
      omega
    · rw [sSets_put h.good.1 hk ea]; exact Nat.le_refl _
  · by_cases hk : keyL 22 [a] = emptyB
    · rw [e, hk, put_none (numB_some _)]; exact hg
    · rw [e]; exact hkn hk g hg
theorem SInv.reg {s : St} (h : SInv s) {a : Int} (ha : a < 9223372036854775808) : SInv (s.setInt (keyL 21 [a]) 1) := by
  rw [setInt_one]
  exact h.other (key_short 21 _ (by simp)) numB1_ne (fun hk => nums3_one (by decide) (by decide) ha hk) (fun hk a' => by rw [sSets_put h.good.1 hk (key_ne_tab (by decide) hk)]; exact Nat.le_refl _) (fun hk g hg => by rw [sKnown_put h.good.1 hk (key_ne_tab (by decide) hk)]; exact hg)

theorem unk_no {s : St} {l : List Int} (h : unkL s l = false) : ∀ g ∈ l, sKnown s g = true := fun g hg => by
  unfold unkL at h
  rw [List.any_eq_false] at h
  have := h g hg
  simpa using this

theorem SInv.newL {s : St} (h : SInv s) {a : Int} {l : List Int} (ha : a < 9223372036854775808) (hr : ∀ g ∈ l, g < 9223372036854775808) : SInv (sNewL s a l).2 := by
  unfold sNewL
  rw [show (l.any fun g => !sKnown s g) = unkL s l from rfl]
  split
  · exact h
  · rename_i h1
    split
    · exact h
    · rename_i h2
      split
      · exact h
      · rename_i h3
        split
        · exact h
        · rename_i h4
          have ha0 := sIs_pos h.good.2.noE (a := a) (by simpa using h1)
          have hk : keyL 22 [a] ≠ emptyB := keyL_some 22 fun x hx => by rw [List.mem_singleton.1 hx]; exact ha0
          obtain ⟨i1, i2, i3⟩ := h.next ha (by omega)
          have hfr := h.fresh (n := (sSets s a : Int)) ha0 ha (by omega) (by omega) (by omega)
          have hlen : (strU (s.setInt (keyL 22 [a]) ((sSets s a : Nat) + 1 : Int)) a (sSets s a)).length ≤ 0 := by
            have h5 := strU_put s (keyL 22 [a]) (if ((sSets s a : Nat) + 1 : Int) < 1 then emptyB else numB ((sSets s a : Nat) + 1 : Int).toNat) a (sSets s a)
            have h6 : ∀ v, fU a (sSets s a) (keyL 22 [a], v) = none := fun v => by unfold fU thirdOf; simp only; rw [nums3_one (by decide) (by decide) ha hk]; simp
            rw [h6, hfr] at h5
            exact h5
          have h8 : l.length ≤ 8 := by
            unfold riseL at h2
            simp at h2
            omega
          exact putL_inv ha (by omega) l i1 (by rw [i2 hk]; omega) (fun g hg => ⟨hr g hg, i3 g (hr g hg) (unk_no (by simpa using h3) g hg)⟩) (by omega)

theorem SInv.inc {s : St} (h : SInv s) {a n g : Int} (ha : a < 9223372036854775808) (hn : n < 9223372036854775808) (hg : g < 9223372036854775808) : SInv (sInc s a n g).2 := by
  unfold sInc
  split
  · exact h
  · rename_i h1
    split
    · exact h
    · rename_i h2
      split
      · exact h
      · split
        · exact h
        · rename_i h4
          have ht : sThere s a n = true := by simpa using h1
          have hs : n < (sSets s a : Int) := by
            have ht2 := ht
            unfold sThere at ht2
            rw [Bool.and_eq_true, decide_eq_true_iff, decide_eq_true_iff] at ht2
            exact ht2.2
          have hl : (strU s a n).length < 8 := by
            unfold strL at h4
            rw [if_pos ht] at h4
            omega
          exact h.putS ha hn hg hs (by simpa using h2) hl

theorem SInv.exc {s : St} (h : SInv s) {a n g : Int} : SInv (s.del (keyL 23 [a, n, g])) := by
  by_cases hk : keyL 23 [a, n, g] = emptyB
  · have hn : getE s.ents emptyB = none := by
      cases hg : getE s.ents emptyB with
      | none => rfl
      | some v => exact absurd rfl (h.good.2 _ (getE_mem hg)).1
    have : s.del (keyL 23 [a, n, g]) = s := by
      unfold St.del
      rw [hk, hn]; rfl
    rw [this]; exact h
  · refine ⟨h.good.del _, fun a' n' ha0 ha hn0 hn => Nat.le_trans (strU_del _ _ _ _) (h.len a' n' ha0 ha hn0 hn), fun a' n' g' u ha0 ha hn0 hn hg0 hg hu => ?_⟩
    rw [sSets_del h.good.1 (key_ne_tab (by decide) hk), sKnown_del h.good.1 (key_ne_tab (by decide) hk)]
    exact h.ent a' n' g' u ha0 ha hn0 hn hg0 hg (get_del h.good.1 hu)

theorem rowB11_ne : rowB [1, 1] ≠ emptyB := fun e => by
  have := congrArg ByteArray.size e
  exact absurd this (by decide)

theorem SInv.vNew {s : St} (h : SInv s) (hc : s.int K5 < 32) : SInv (vNew s) := by
  have hk5 : K5 ≠ emptyB := keyL_some 5 fun x hx => by cases hx
  have e : s.setInt K5 ((s.int K5 : Nat) + 1 : Int) = s.put K5 (numB (s.int K5 + 1)) := by
    unfold St.setInt
    rw [if_neg (by omega)]
    rfl
  have h1 : SInv (s.setInt K5 ((s.int K5 : Nat) + 1 : Int)) := by
    rw [e]
    refine h.other (key_short 5 [] (by simp)) (numB_some _) (fun _ => ?_) (fun hk a' => ?_) (fun hk g hg => ?_)
    · show nums3 (keyL 5 []) = none
      rw [nums3_key (by decide) (by decide) fun x hx => by cases hx]; rfl
    · rw [sSets_put h.good.1 hk (key_ne_tab (t := 5) (ls := []) (by decide) hk5)]; exact Nat.le_refl _
    · have hne : K5 ≠ keyL 5 [g] := fun hh => by
        have hq := key_pos (t := 5) (ls := [g]) (hh ▸ hk5)
        have h1 : (keyL 5 []).data.toList = (keyL 5 [g]).data.toList := by rw [← hh]; rfl
        rw [keyL_pos (fun x hx => by cases hx), keyL_pos (fun x hx => by have := hq x hx; omega)] at h1
        have h2 := congrArg List.length h1
        simp only [keyBytes_len] at h2
        simp at h2
      rw [sKnown_put h.good.1 hk hne]; exact hg
  unfold Go.Proofs.YtnblhjndngpbnaaGreat.vNew
  have hkc : keyL 5 [((s.int K5 : Nat) + 1 : Int)] ≠ emptyB := keyL_some 5 fun x hx => by rw [List.mem_singleton.1 hx]; omega
  refine h1.other (key_short 5 _ (by simp)) rowB11_ne (fun _ => nums3_one (by decide) (by decide) (by omega) hkc) (fun hk a' => ?_) (fun hk g hg => ?_)
  · rw [sSets_put h1.good.1 hk (key_ne_tab (by decide) hk)]; exact Nat.le_refl _
  · by_cases e5 : keyL 5 [((s.int K5 : Nat) + 1 : Int)] = keyL 5 [g]
    · unfold sKnown sInfo
      rw [← e5, val_put _ h1.good.1 _ _ _ hkc, if_pos rfl]
      have : numsL (rowB [1, 1]).data.toList = some [1, 1] := by kernel_rfl
      rw [this]; rfl
    · rw [sKnown_put h1.good.1 hk e5]; exact hg

theorem SInv.act {s : St} (h : SInv s) (k : Int) {a n g : Int} {l : List Int} (ha : a < 9223372036854775808) (hn : n < 9223372036854775808) (hg : g < 9223372036854775808) (hr : ∀ g ∈ l, g < 9223372036854775808) : SInv (sAct s k a n g l) := by
  unfold sAct
  split
  · unfold sReg
    repeat' split
    all_goals first | exact h | exact h.reg ha
  · split
    · exact h.newL ha hr
    · split
      · exact h.inc ha hn hg
      · split
        · exact h.exc
        · unfold vNewG
          split
          · exact h
          · exact h.vNew (by omega)

/-- What a set has. -/
theorem SInv.has {s : St} (h : SInv s) {a n g : Int} (ha : a < 9223372036854775808) (hn : n < 9223372036854775808) (hm : g ∈ strL s a n) : g < 9223372036854775808 ∧ sKnown s g = true ∧ sHas s a n g = true := by
  unfold strL at hm
  split at hm
  · rename_i ht
    obtain ⟨ha0, hn0⟩ := there_of h.good.2.noE ht
    obtain ⟨e, he, hez⟩ := List.mem_filterMap.1 hm
    unfold thirdOf at hez
    rw [Option.map_eq_some_iff] at hez
    obtain ⟨p, hp, rfl⟩ := hez
    obtain ⟨y, e1, l1, k1⟩ := third_key ha0 ha hn0 hn he hp
    have hmem : e ∈ s.ents := (List.mem_filter.1 he).1
    have e2 : asInts [a.toNat, n.toNat, y] = [a, n, (y : Int)] := by simp [asInts]; omega
    rw [e2] at k1
    have hg := getE_of_mem h.good.1 (k := e.1) (v := e.2) hmem
    rw [k1] at hg
    obtain ⟨h1, _, h3⟩ := h.ent a n y e.2 ha0 ha hn0 hn (by omega) (by omega) hg
    rw [e1]
    refine ⟨by omega, h3, ?_⟩
    unfold sHas St.int St.val
    rw [hg, h1]
    rfl
  · cases hm

theorem SInv.found {s : St} (h : SInv s) {a n g : Int} (ha : a < 9223372036854775808) (hn : n < 9223372036854775808) (hg : g < 9223372036854775808) (ht : sThere s a n = true) : sHas s a n g = decide (g ∈ strL s a n) := by
  rw [Bool.eq_iff_iff, decide_eq_true_iff]
  constructor
  · intro hh
    obtain ⟨ha0, hn0⟩ := there_of h.good.2.noE ht
    have hk : keyL 23 [a, n, g] ≠ emptyB := fun e => by
      unfold sHas St.int at hh
      rw [e, show s.val emptyB = emptyB from h.good.2.noE, intOfV_empty] at hh
      cases hh
    have hg0 := key_pos hk g (by simp)
    cases hget : getE s.ents (keyL 23 [a, n, g]) with
    | none =>
      unfold sHas St.int St.val at hh
      rw [hget] at hh
      cases hh
    | some v =>
      unfold strL
      rw [if_pos ht]
      have e2 : asInts [a.toNat, n.toNat, g.toNat] = [a, n, g] := by simp [asInts]; omega
      have e3 : asInts [a.toNat, n.toNat] = [a, n] := by simp [asInts]; omega
      refine List.mem_filterMap.2 ⟨(keyL 23 [a, n, g], v), List.mem_filter.2 ⟨getE_mem hget, ?_⟩, ?_⟩
      · have := pre_of23 23 a.toNat n.toNat g.toNat
        rw [e2, e3] at this
        exact this
      · unfold thirdOf
        simp only
        rw [nums3_key (by decide) (by decide) (ls := [a, n, g]) (by
          intro x hx
          simp only [List.mem_cons, List.not_mem_nil, or_false] at hx
          rcases hx with rfl | rfl | rfl <;> constructor <;> assumption)]
        simp; omega
  · intro hm
    exact (h.has ha hn hm).2.2

theorem SInv.len8 {s : St} (h : SInv s) {a n : Int} (ha : a < 9223372036854775808) (hn : n < 9223372036854775808) : (strL s a n).length ≤ 8 := by
  unfold strL
  split
  · rename_i ht
    obtain ⟨ha0, hn0⟩ := there_of h.good.2.noE ht
    exact h.len a n ha0 ha hn0 hn
  · exact Nat.zero_le _
theorem SInv.rise {s : St} (h : SInv s) {a n : Int} (ha : a < 9223372036854775808) (hn : n < 9223372036854775808) : (strL s a n).Pairwise (· < ·) := by
  unfold strL
  split
  · rename_i ht
    obtain ⟨ha0, hn0⟩ := there_of h.good.2.noE ht
    exact strU_rise h.good.1 ha0 ha hn0 hn
  · exact List.Pairwise.nil
theorem strL_there {s : St} {a n : Int} (h : 0 < (strL s a n).length) : sThere s a n = true := by
  unfold strL at h
  split at h
  · assumption
  · exact absurd h (by simp)
end Go.Proofs.YtnblhjndngpbnaaGreat
