/- What is proved here: plain facts on the member laws' states: who is among a set's members is in it; who can be slashed does not join. No program is named. No condition. -/
import Derived.Test.YtngaogfhijaaaaaGreatMemW
namespace Go.Proofs.YtngaogfhijaaaaaGreat

theorem keyL_neg' {t : Nat} {l : List Int} {n : Int} (h : n ∈ l) (hn : n < 0) : keyL t l = emptyB := by
  unfold keyL
  rw [if_pos (List.any_eq_true.2 ⟨n, h, decide_eq_true hn⟩)]
  rfl

/-- A key of three numbers that is there tells them. -/
theorem K24_inj {n o n' o' : Int} (hn : n < 9223372036854775808) (ho : o < 9223372036854775808) (hn' : n' < 9223372036854775808) (ho' : o' < 9223372036854775808) (h : K24 9 n o = K24 9 n' o') (he : K24 9 n o ≠ emptyB) : n = n' ∧ o = o' := by
  have pos : ∀ a b : Int, K24 9 a b ≠ emptyB → 0 ≤ a ∧ 0 ≤ b := fun a b hab => by
    constructor
    · exact Decidable.byContradiction fun h1 => hab (keyL_neg' (n := a) (by simp) (by omega))
    · exact Decidable.byContradiction fun h1 => hab (keyL_neg' (n := b) (by simp) (by omega))
  obtain ⟨h1, h2⟩ := pos n o he
  obtain ⟨h3, h4⟩ := pos n' o' (h ▸ he)
  have e : ∀ a b : Int, 0 ≤ a → 0 ≤ b → K24 9 a b = keyL 24 (asInts [9, a.toNat, b.toNat]) := fun a b ha hb => by
    have : asInts [9, a.toNat, b.toNat] = [9, a, b] := by simp [asInts]; omega
    rw [this]; rfl
  rw [e n o h1 h2, e n' o' h3 h4] at h
  have := (keyL_inj (by decide) (by decide) (by decide) (by decide) (by intro x hx; simp at hx; omega) (by intro x hx; simp at hx; omega) h).2
  simp at this
  omega

theorem K24_not22 (n o : Int) : K24 9 n o ≠ keyL 22 [9] := fun e => by
  by_cases h : K24 9 n o = emptyB
  · rw [h] at e
    have := congrArg ByteArray.size e
    rw [show emptyB.size = 0 from rfl, show (keyL 22 [9]).size = 9 by kernel_rfl] at this
    cases this
  · have hp : ∀ x ∈ [(9 : Int), n, o], ¬x < 0 := fun x hx h0 => h (keyL_neg' hx h0)
    have := congrArg ByteArray.size e
    unfold K24 at this
    rw [keyL_pos hp, show (keyL 22 [9]).size = 9 by kernel_rfl] at this
    rw [show (⟨(keyBytes 24 [9, n, o]).toArray⟩ : ByteArray).size = (keyBytes 24 [9, n, o]).length from List.size_toArray .., keyBytes_len] at this
    simp at this

/-- Whoever is in a set, that set is there. -/
def MInv (s : St) : Prop := ∀ n o : Int, n < 9223372036854775808 → o < 9223372036854775808 → mIn s 9 n o = true → sThere s 9 n = true

theorem sThere_put {s : St} (hs : Sorted s.ents) (n o : Int) (v : ByteArray) (hk : K24 9 n o ≠ emptyB) (k : Int) : sThere (s.put (K24 9 n o) v) 9 k = sThere s 9 k := by
  unfold sThere sSets St.int
  rw [val_put s hs _ _ _ hk, if_neg (K24_not22 n o)]

theorem MInv.put {s : St} (h : MInv s) (hs : Sorted s.ents) {n o : Int} (hn : n < 9223372036854775808) (ho : o < 9223372036854775808) (v : ByteArray) (hk : K24 9 n o ≠ emptyB) (ht : sThere s 9 n = true) : MInv (s.put (K24 9 n o) v) := fun n' o' hn' ho' hi => by
  rw [sThere_put hs n o v hk]
  unfold mIn mP at hi
  rw [val_put s hs _ _ _ hk] at hi
  by_cases e : K24 9 n o = K24 9 n' o'
  · rw [← (K24_inj hn ho hn' ho' e hk).1]; exact ht
  · rw [if_neg e] at hi
    exact h n' o' hn' ho' hi

theorem m27_inv : MInv m27 := fun n o _ _ h => by
  have h24 : (m27.ents.all fun x => x.1.data.toList.head? != some 24) = true := by kernel_rfl
  have hv : m27.val (K24 9 n o) = emptyB := by
    by_cases he : K24 9 n o = emptyB
    · rw [he]; kernel_rfl
    · unfold St.val
      rw [getE_none.2 (fun hm => ?_)]; rfl
      obtain ⟨x, hx, e⟩ := List.mem_map.1 hm
      have h1 := List.all_eq_true.1 h24 x hx
      have hp : ∀ x ∈ [(9 : Int), n, o], ¬x < 0 := fun x hx h0 => he (keyL_neg' hx h0)
      rw [show x.1 = K24 9 n o from e, show K24 9 n o = ⟨(keyBytes 24 [9, n, o]).toArray⟩ from keyL_pos hp] at h1
      cases h1
  unfold mIn mP at h
  rw [hv] at h
  cases h

theorem MInv.act {s : St} (h : MInv s) (hg : MGood s) (k n o b t : Int) (hn : n < 9223372036854775808) (ho : o < 9223372036854775808) : MInv (mAct s k n o b t).2 := by
  unfold mAct mJoin mLeave
  split
  · split
    · exact h
    · rename_i h1
      split
      · exact h
      · rename_i h2
        split
        · exact h
        · split
          · exact h
          · have h1' : sThere s 9 n = true := by simpa using h1
            exact h.put hg.1 hn ho _ (K24_there hg.2.1 (by decide) h1' (by simpa using h2)) h1'
  · split
    · exact h
    · rename_i h1
      have h1' : mIn s 9 n o = true := by simpa using h1
      split
      · exact h
      · split
        · exact h
        · exact h.put hg.1 hn ho _ (K24_in hg.2.1 h1') (h n o hn ho h1')

theorem mem_iff {s : St} (hg : MGood s) (hi : MInv s) {x y : Int} (hx : x < 9223372036854775808) (hy : y < 9223372036854775808) : y ∈ memL 9 x s ↔ mIn s 9 x y = true := by
  constructor
  · intro h
    unfold memL at h
    split at h
    · rename_i ht
      have hx0 : 0 ≤ x := by
        unfold sThere at ht
        rw [Bool.and_eq_true, decide_eq_true_iff] at ht
        exact ht.1
      unfold pickIn at h
      obtain ⟨z, hz, rfl⟩ := List.mem_map.1 h
      obtain ⟨hz1, hz2⟩ := List.mem_filter.1 hz
      unfold memE at hz1
      obtain ⟨e, he, hm⟩ := List.mem_filterMap.1 hz1
      rw [memOf_num, Option.map_eq_some_iff] at hm
      obtain ⟨p, hp, rfl⟩ := hm
      obtain ⟨h1, h2, _⟩ := num3_under (by decide) (by decide) hx0 hx he hp
      simp only at hz2 ⊢
      rw [h1, h2] at hz2
      exact hz2
    · cases h
  · intro h
    have ht := hi x y hx hy h
    have hk : K24 9 x y ≠ emptyB := K24_in hg.2.1 h
    have hx0 : 0 ≤ x := Decidable.byContradiction fun h1 => hk (keyL_neg' (n := x) (by simp) (by omega))
    have hy0 : 0 ≤ y := Decidable.byContradiction fun h1 => hk (keyL_neg' (n := y) (by simp) (by omega))
    have ek : K24 9 x y = keyL 24 (asInts [9, x.toNat, y.toNat]) := by
      have : asInts [9, x.toNat, y.toNat] = [9, x, y] := by simp [asInts]; omega
      rw [this]; rfl
    unfold memL
    rw [if_pos ht]
    cases hg' : getE s.ents (K24 9 x y) with
    | none =>
      unfold mIn mP St.val at h
      rw [hg'] at h
      cases h
    | some v =>
      have hm := getE_mem hg'
      have hu : (K24 9 x y, v) ∈ underE (keyL 24 [9, x]) s.ents := by
        unfold underE
        refine List.mem_filter.2 ⟨hm, ?_⟩
        have e2 : keyL 24 [9, x] = keyL 24 (asInts [9, x.toNat]) := by
          have : asInts [9, x.toNat] = [9, x] := by simp [asInts]; omega
          rw [this]
        rw [e2]
        simp only []
        rw [ek]
        exact pre_of23 24 9 x.toNat y.toNat
      have hn : num3 (K24 9 x y) = some (9, x.toNat, y.toNat) := by
        unfold num3
        rw [ek, parse_keyL (by decide) (by decide) (by intro z hz; simp at hz; omega)]
      have hmo : memOf s (K24 9 x y, v) = some ((y.toNat : Int), mP s 9 x y) := by
        rw [memOf_num]
        simp only [hn, Option.map_some]
        have e1 : ((x.toNat : Nat) : Int) = x := by omega
        have e2 : ((y.toNat : Nat) : Int) = y := by omega
        rw [show ((9 : Nat) : Int) = 9 from rfl, e1, e2]
      unfold pickIn
      refine List.mem_map.2 ⟨((y.toNat : Int), mP s 9 x y), List.mem_filter.2 ⟨?_, h⟩, by simp only; omega⟩
      unfold memE
      exact List.mem_filterMap.2 ⟨_, hu, hmo⟩

theorem join_not {s : St} {n o b : Int} (h : mSlash s 9 n o b = true) (hi : mIn s 9 n o = false) : (mJoin s 9 n o b).2 = s ∧ (mJoin s 9 n o b).1 ≠ 0 := by
  unfold mJoin
  simp only [hi, h, Bool.false_eq_true, if_false, if_true]
  split
  · exact ⟨rfl, show (8 : Int) ≠ 0 by decide⟩
  · split
    · exact ⟨rfl, show (8 : Int) ≠ 0 by decide⟩
    · exact ⟨rfl, show (10 : Int) ≠ 0 by decide⟩
theorem in_left {s : St} {n o : Int} : (mIn s 9 n o && (mUntil s 9 n o).2) = false := by
  unfold mIn mUntil
  split
  · rename_i h; rw [h]; rfl
  · simp
end Go.Proofs.YtngaogfhijaaaaaGreat
