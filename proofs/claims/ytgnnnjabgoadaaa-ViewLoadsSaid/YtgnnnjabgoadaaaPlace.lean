/- What is proved here: plain facts on rows of keys: in which row a key stands or belongs, what all keys are when one is put in or taken out of its row. No program is named. -/
import Derived.Test.YtgnnnjabgoadaaaFind
namespace Go.Proofs.Ytgnnnjabgoadaaa

def allKeys (bs : List Blk) : List ByteArray := bs.flatMap Blk.keys

theorem allKeys_nil : allKeys [] = [] := rfl
theorem allKeys_cons (x : Blk) (bs : List Blk) : allKeys (x :: bs) = x.keys ++ allKeys bs := rfl
theorem allKeys_append (A B : List Blk) : allKeys (A ++ B) = allKeys A ++ allKeys B := List.flatMap_append

theorem allKeys_length {bs : List Blk} (h : ∀ x ∈ bs, x.keys ≠ []) : bs.length ≤ (allKeys bs).length := by
  induction bs with
  | nil => simp
  | cons x r ih =>
    have h1 : 0 < x.keys.length := List.length_pos_iff.2 (h x (by simp))
    have h2 := ih (fun y hy => h y (by simp [hy]))
    simp only [allKeys_cons, List.length_append, List.length_cons]
    omega

theorem keys_le_all {bs : List Blk} {x : Blk} (h : x ∈ bs) : x.keys.length ≤ (allKeys bs).length := by
  obtain ⟨A, C, rfl⟩ := List.append_of_mem h
  simp only [allKeys_append, allKeys_cons, List.length_append]
  omega

theorem Blk.last_mem {x : Blk} (h : x.keys ≠ []) : x.last ∈ x.keys := by
  unfold Blk.last
  rw [List.getLastD_eq_getLast?, List.getLast?_eq_some_getLast h]
  exact List.getLast_mem h

theorem Blk.last_eq {x : Blk} {n : Nat} (h : x.keys.length = n + 1) : x.keys[n]? = some x.last := by
  have hne : x.keys ≠ [] := by intro e; rw [e] at h; simp at h
  unfold Blk.last
  rw [List.getLastD_eq_getLast?, List.getLast?_eq_getElem?, h]
  simp [List.getElem?_eq_getElem (show n < x.keys.length by omega)]

theorem le_last {x : Blk} (hs : KSorted x.keys) {y : ByteArray} (h : y ∈ x.keys) : ¬ KLt x.last y := by
  have hne : x.keys ≠ [] := by intro e; rw [e] at h; simp at h
  obtain ⟨n, hn⟩ : ∃ n, x.keys.length = n + 1 := ⟨x.keys.length - 1, by have := List.length_pos_iff.2 hne; omega⟩
  obtain ⟨i, hi, rfl⟩ := List.getElem_of_mem h
  have hl := Blk.last_eq hn
  rw [List.getElem?_eq_getElem (show n < x.keys.length by omega), Option.some.injEq] at hl
  rw [← hl]
  rcases Nat.eq_or_lt_of_le (show i ≤ n by omega) with e | e
  · subst e; exact KLt.irrefl _
  · exact (List.pairwise_iff_getElem.1 hs i n hi (by omega) e).asymm

theorem all_sorted_of {bs : List Blk} (hs : KSorted (allKeys bs)) {x : Blk} (h : x ∈ bs) : KSorted x.keys := by
  obtain ⟨A, C, rfl⟩ := List.append_of_mem h
  rw [allKeys_append, allKeys_cons] at hs
  exact (List.pairwise_append.1 (List.pairwise_append.1 hs).2.1).1

theorem lasts_sorted {bs : List Blk} (hne : ∀ x ∈ bs, x.keys ≠ []) (hs : KSorted (allKeys bs)) : KSorted (bs.map Blk.last) := by
  induction bs with
  | nil => exact List.Pairwise.nil
  | cons x r ih =>
    rw [allKeys_cons] at hs
    have hp := List.pairwise_append.1 hs
    refine List.pairwise_cons.2 ⟨fun y hy => ?_, ih (fun z hz => hne z (by simp [hz])) hp.2.1⟩
    obtain ⟨z, hz, rfl⟩ := List.mem_map.1 hy
    exact hp.2.2 _ (Blk.last_mem (hne x (by simp))) _ (List.mem_flatMap.2 ⟨z, hz, Blk.last_mem (hne z (by simp [hz]))⟩)

/-- The row in which a key stands, or would. -/
theorem place {bs : List Blk} (hne : ∀ x ∈ bs, x.keys ≠ []) (hs : KSorted (allKeys bs)) (k : ByteArray) (h0 : 0 < bs.length) :
    ∃ A x C, bs = A ++ x :: C ∧ A.length = min (lb (bs.map Blk.last) k) (bs.length - 1) ∧ lb (allKeys bs) k = (allKeys A).length + lb x.keys k := by
  have hls := lasts_sorted hne hs
  obtain ⟨i, hi⟩ : ∃ i, i = min (lb (bs.map Blk.last) k) (bs.length - 1) := ⟨_, rfl⟩
  have hib : i < bs.length := by omega
  have hsplit : bs = bs.take i ++ bs[i] :: bs.drop (i + 1) := by
    rw [← List.drop_eq_getElem_cons hib, List.take_append_drop]
  refine ⟨bs.take i, bs[i], bs.drop (i + 1), hsplit, by rw [List.length_take]; omega, ?_⟩
  have hA : ∀ y ∈ allKeys (bs.take i), KLt y k := by
    intro y hy
    obtain ⟨z, hz, hyz⟩ := List.mem_flatMap.1 hy
    obtain ⟨j, hj, rfl⟩ := List.getElem_of_mem hz
    rw [List.length_take] at hj
    have hjb : j < bs.length := by omega
    rw [List.getElem_take] at hyz
    have h1 := (lb_lt_iff hls k j (by simpa using hjb)).2 (by omega)
    rw [List.getElem_map] at h1
    exact KLt.of_not (le_last (all_sorted_of hs (List.getElem_mem hjb)) hyz) h1
  have e : lb (allKeys bs) k = lb (allKeys (bs.take i) ++ (bs[i].keys ++ allKeys (bs.drop (i + 1)))) k := by
    rw [← allKeys_cons, ← allKeys_append, ← hsplit]
  rw [e, lb_append_right hA]
  congr 1
  have hle := lb_le bs[i].keys k
  rcases Nat.lt_or_eq_of_le hle with h | h
  · exact lb_append_left h
  · have hall : ∀ y ∈ bs[i].keys, KLt y k := by
      intro y hy
      obtain ⟨j, hj, rfl⟩ := List.getElem_of_mem hy
      exact (lb_lt_iff (all_sorted_of hs (List.getElem_mem hib)) k j hj).2 (by omega)
    have hl := hall _ (Blk.last_mem (hne _ (List.getElem_mem hib)))
    have h1 := (lb_lt_iff hls k i (by simpa using hib)).1 (by rw [List.getElem_map]; exact hl)
    have h2 : i + 1 = bs.length := by omega
    rw [List.drop_of_length_le (by omega), allKeys_nil, List.append_nil]

theorem insert_all (A C : List Blk) (x : Blk) (k : ByteArray) (n : Nat) (hn : n ≤ x.keys.length) :
    (allKeys (A ++ x :: C)).take ((allKeys A).length + n) ++ k :: (allKeys (A ++ x :: C)).drop ((allKeys A).length + n) = allKeys A ++ ((x.keys.take n ++ k :: x.keys.drop n) ++ allKeys C) := by
  rw [allKeys_append, allKeys_cons, List.take_length_add_append, List.drop_length_add_append, List.take_append_of_le_length hn, List.drop_append_of_le_length hn]
  simp

theorem remove_all (A C : List Blk) (x : Blk) (n : Nat) (hn : n < x.keys.length) :
    (allKeys (A ++ x :: C)).take ((allKeys A).length + n) ++ (allKeys (A ++ x :: C)).drop ((allKeys A).length + n + 1) = allKeys A ++ ((x.keys.take n ++ x.keys.drop (n + 1)) ++ allKeys C) := by
  rw [allKeys_append, allKeys_cons, List.take_length_add_append, Nat.add_assoc, List.drop_length_add_append, List.take_append_of_le_length (by omega), List.drop_append_of_le_length (by omega)]
  simp

theorem insert_sorted {l : List ByteArray} (hs : KSorted l) {k : ByteArray} (hk : k ∉ l) : KSorted (l.take (lb l k) ++ k :: l.drop (lb l k)) := by
  have h1 : ∀ y ∈ l.take (lb l k), KLt y k := by
    intro y hy
    obtain ⟨j, hj, rfl⟩ := List.getElem_of_mem hy
    rw [List.length_take] at hj
    rw [List.getElem_take]
    exact (lb_lt_iff hs k j (by omega)).2 (by omega)
  have h2 : ∀ y ∈ l.drop (lb l k), KLt k y := by
    intro y hy
    obtain ⟨j, hj, rfl⟩ := List.getElem_of_mem hy
    rw [List.length_drop] at hj
    rw [List.getElem_drop]
    have h3 : ¬ KLt l[lb l k + j] k := fun h => by
      have := (lb_lt_iff hs k _ (by omega)).1 h; omega
    by_cases h4 : KLt k l[lb l k + j]
    · exact h4
    · exact absurd (by rw [KLt.eq h4 h3]; exact List.getElem_mem _) hk
  refine List.pairwise_append.2 ⟨hs.sublist (List.take_sublist _ _), List.pairwise_cons.2 ⟨h2, hs.sublist (List.drop_sublist _ _)⟩, fun a ha b hb => ?_⟩
  rcases List.mem_cons.1 hb with rfl | hb
  · exact h1 a ha
  · exact (h1 a ha).trans (h2 b hb)

theorem remove_sorted {l : List ByteArray} (hs : KSorted l) (n : Nat) : KSorted (l.take n ++ l.drop (n + 1)) := by
  rw [← List.eraseIdx_eq_take_drop_succ]
  exact hs.sublist (List.eraseIdx_sublist _ _)

/-- A key that is there stands in the row that the search names. -/
theorem place_in {bs A C : List Blk} {x : Blk} {k : ByteArray} (hs : KSorted (allKeys bs)) (e : bs = A ++ x :: C) (hl : lb (allKeys bs) k = (allKeys A).length + lb x.keys k) (hk : k ∈ allKeys bs) (hne : ∀ x ∈ bs, x.keys ≠ []) (hA : A.length = min (lb (bs.map Blk.last) k) (bs.length - 1)) : lb x.keys k < x.keys.length := by
  have hle := lb_le x.keys k
  rcases Nat.lt_or_eq_of_le hle with h | h
  · exact h
  · exfalso
    obtain ⟨hlt, _⟩ := lb_at hs hk
    have hx : x ∈ bs := by rw [e]; simp
    have hlast : KLt x.last k := by
      have hm := Blk.last_mem (hne x hx)
      obtain ⟨j, hj, hj2⟩ := List.getElem_of_mem hm
      rw [← hj2]
      exact (lb_lt_iff (all_sorted_of hs hx) k j hj).2 (by omega)
    have hAb : A.length < bs.length := by rw [e]; simp
    have h1 := (lb_lt_iff (lasts_sorted hne hs) k A.length (by simpa using hAb)).1 (by simp only [e, List.map_append, List.map_cons]; rw [List.getElem_append_right (by simp)]; simpa using hlast)
    have h2 : A.length + 1 = bs.length := by omega
    have h3 : C = [] := by
      have := congrArg List.length e
      simp only [List.length_append, List.length_cons] at this
      exact List.eq_nil_of_length_eq_zero (by omega)
    rw [hl, h, e, h3, allKeys_append, allKeys_cons] at hlt
    simp [allKeys_nil] at hlt

end Go.Proofs.Ytgnnnjabgoadaaa
