/- What is proved here: plain facts on a sorted table of texts: keys in order, put, delete, look up; where a key stands among rows of keys. No program is named. No condition. -/
import Derived.Test.YtgnnnjabgoadaaaMem
namespace Go.Proofs.Ytgnnnjabgoadaaa

/-- a stands ahead of b. -/
def KLt (a b : ByteArray) : Prop := a.data.toList < b.data.toList

instance (a b : ByteArray) : Decidable (KLt a b) := inferInstanceAs (Decidable (a.data.toList < b.data.toList))

theorem ba_ext {a b : ByteArray} (h : a.data.toList = b.data.toList) : a = b := by
  cases a; cases b; congr; exact Array.toList_inj.1 h

theorem KLt.irrefl (a : ByteArray) : ¬ KLt a a := List.lt_irrefl _
theorem KLt.trans {a b c : ByteArray} (h : KLt a b) (h1 : KLt b c) : KLt a c := List.lt_trans h h1
theorem KLt.asymm {a b : ByteArray} (h : KLt a b) : ¬ KLt b a := List.lt_asymm h
theorem KLt.eq {a b : ByteArray} (h : ¬ KLt a b) (h1 : ¬ KLt b a) : a = b := ba_ext (List.le_antisymm (List.not_lt.1 h1) (List.not_lt.1 h))
theorem KLt.of_not {a b c : ByteArray} (h : ¬ KLt b a) (h1 : KLt b c) : KLt a c := by
  by_cases h2 : KLt a b
  · exact h2.trans h1
  · rw [KLt.eq h2 h]; exact h1
theorem KLt.of_not' {a b c : ByteArray} (h : KLt a b) (h1 : ¬ KLt c b) : KLt a c := by
  by_cases h2 : KLt b c
  · exact h.trans h2
  · rw [← KLt.eq h2 h1]; exact h
theorem KLt.ne {a b : ByteArray} (h : KLt a b) : a ≠ b := fun e => KLt.irrefl a (by rw [e] at h ⊢; exact h)

theorem bytesLess_iff : ∀ (x y : List UInt8), Op.bytesLess x y = decide (x < y)
  | [], [] => by simp [Op.bytesLess]
  | _ :: _, [] => by simp [Op.bytesLess]
  | [], _ :: _ => by simp [Op.bytesLess]
  | a :: x, b :: y => by
    rw [Op.bytesLess, bytesLess_iff x y]
    simp only [List.cons_lt_cons_iff]
    by_cases h1 : a < b <;> by_cases h2 : a = b <;> by_cases h3 : x < y <;> simp [h1, h2, h3]

theorem bytesLess_KLt (a b : ByteArray) : Op.bytesLess a.toList b.toList = decide (KLt a b) := by
  rw [bytesLess_iff, ByteArray.toList_eq, ByteArray.toList_eq]; rfl

theorem toList_beq (a b : ByteArray) : (a.toList == b.toList) = decide (a = b) := by
  rw [ByteArray.toList_eq, ByteArray.toList_eq, Bool.eq_iff_iff]
  simp only [beq_iff_eq, decide_eq_true_eq]
  exact ⟨ba_ext, fun h => by rw [h]⟩

/-- Keys in order. -/
def KSorted (l : List ByteArray) : Prop := l.Pairwise KLt

/-- How many keys stand ahead of k. -/
def lb (l : List ByteArray) (k : ByteArray) : Nat := (l.takeWhile fun x => decide (KLt x k)).length

theorem lb_nil (k : ByteArray) : lb [] k = 0 := rfl
theorem lb_cons (x : ByteArray) (l : List ByteArray) (k : ByteArray) : lb (x :: l) k = if KLt x k then lb l k + 1 else 0 := by
  unfold lb; by_cases h : KLt x k <;> simp [h]
theorem lb_le (l : List ByteArray) (k : ByteArray) : lb l k ≤ l.length := (List.takeWhile_prefix _).length_le

theorem lb_lt_iff {l : List ByteArray} (hs : KSorted l) (k : ByteArray) : ∀ (i : Nat) (h : i < l.length), KLt l[i] k ↔ i < lb l k := by
  induction l with
  | nil => intro i h; simp at h
  | cons x l ih =>
    have hp := List.pairwise_cons.1 hs
    intro i h
    rw [lb_cons]
    cases i with
    | zero => by_cases hx : KLt x k <;> simp [hx]
    | succ i =>
      simp only [List.length_cons, Nat.add_lt_add_iff_right] at h
      simp only [List.getElem_cons_succ]
      rw [ih hp.2 i h]
      by_cases hx : KLt x k
      · simp [hx]
      · simp only [hx, if_false, Nat.not_lt_zero, iff_false]
        intro hlt
        have h1 := (ih hp.2 i h).2 hlt
        exact hx ((hp.1 _ (List.getElem_mem h)).trans h1)

/-- The binary search's place is this. -/
theorem lb_unique {l : List ByteArray} (hs : KSorted l) (k : ByteArray) (n : Nat) (hn : n ≤ l.length) (h1 : ∀ i (h : i < l.length), i < n → KLt l[i] k) (h2 : ∀ i (h : i < l.length), n ≤ i → ¬ KLt l[i] k) : lb l k = n := by
  have hl := lb_le l k
  rcases Nat.lt_trichotomy (lb l k) n with h | h | h
  · exact absurd ((lb_lt_iff hs k _ (by omega)).1 (h1 (lb l k) (by omega) h)) (Nat.lt_irrefl _)
  · exact h
  · exact absurd ((lb_lt_iff hs k n (by omega)).2 h) (h2 n (by omega) (Nat.le_refl _))

/-- An entry: a key and its value. -/
abbrev Ent := ByteArray × ByteArray

def Sorted (l : List Ent) : Prop := l.Pairwise fun a b => KLt a.1 b.1

theorem Sorted.keys {l : List Ent} (h : Sorted l) : KSorted (l.map Prod.fst) := by
  unfold KSorted; rw [List.pairwise_map]; exact h

def getE : List Ent → ByteArray → Option ByteArray
  | [], _ => none
  | (a, b) :: r, k => if a = k then some b else getE r k

def putE : List Ent → ByteArray → ByteArray → List Ent
  | [], k, v => [(k, v)]
  | (a, b) :: r, k, v => if KLt a k then (a, b) :: putE r k v else if a = k then (k, v) :: r else (k, v) :: (a, b) :: r

def delE : List Ent → ByteArray → List Ent
  | [], _ => []
  | (a, b) :: r, k => if a = k then r else (a, b) :: delE r k

theorem getE_mem {l : List Ent} {k v : ByteArray} (h : getE l k = some v) : (k, v) ∈ l := by
  induction l with
  | nil => simp [getE] at h
  | cons x r ih =>
    obtain ⟨a, b⟩ := x
    simp only [getE] at h
    split at h
    · rename_i e; simp at h; subst e; subst h; simp
    · simp [ih h]

theorem getE_none {l : List Ent} {k : ByteArray} : getE l k = none ↔ k ∉ l.map Prod.fst := by
  induction l with
  | nil => simp [getE]
  | cons x r ih =>
    obtain ⟨a, b⟩ := x
    simp only [getE, List.map_cons, List.mem_cons, not_or]
    by_cases e : a = k
    · simp [e]
    · simp [e, ih, Ne.symm e]

theorem getE_of_mem {l : List Ent} (hs : Sorted l) {k v : ByteArray} (h : (k, v) ∈ l) : getE l k = some v := by
  induction l with
  | nil => simp at h
  | cons x r ih =>
    obtain ⟨a, b⟩ := x
    have hp := List.pairwise_cons.1 hs
    simp only [getE]
    rcases List.mem_cons.1 h with e | h
    · simp at e; simp [e.1, e.2]
    · have := hp.1 _ h
      rw [if_neg (fun e => KLt.irrefl k (by simpa [e] using this)), ih hp.2 h]

theorem putE_mem {l : List Ent} {k v : ByteArray} {x : Ent} (h : x ∈ putE l k v) : x = (k, v) ∨ x ∈ l := by
  induction l with
  | nil => simp [putE] at h; exact .inl h
  | cons y r ih =>
    obtain ⟨a, b⟩ := y
    simp only [putE] at h
    split at h
    · rcases List.mem_cons.1 h with e | h
      · exact .inr (by simp [e])
      · rcases ih h with e | e
        · exact .inl e
        · exact .inr (by simp [e])
    · split at h
      · rcases List.mem_cons.1 h with e | h
        · exact .inl e
        · exact .inr (by simp [h])
      · rcases List.mem_cons.1 h with e | h
        · exact .inl e
        · exact .inr h

theorem putE_sorted {l : List Ent} (hs : Sorted l) (k v : ByteArray) : Sorted (putE l k v) := by
  induction l with
  | nil => simp [putE, Sorted]
  | cons y r ih =>
    obtain ⟨a, b⟩ := y
    have hp := List.pairwise_cons.1 hs
    simp only [putE]
    split
    · rename_i h
      refine List.pairwise_cons.2 ⟨fun x hx => ?_, ih hp.2⟩
      rcases putE_mem hx with e | e
      · rw [e]; exact h
      · exact hp.1 x e
    · rename_i h
      split
      · rename_i e
        exact List.pairwise_cons.2 ⟨fun x hx => by have := hp.1 x hx; rw [e] at this; exact this, hp.2⟩
      · rename_i e
        have hk : KLt k a := by
          by_cases h2 : KLt k a
          · exact h2
          · exact absurd (KLt.eq h h2) e
        refine List.pairwise_cons.2 ⟨fun x hx => ?_, hs⟩
        rcases List.mem_cons.1 hx with e | hx
        · rw [e]; exact hk
        · exact hk.trans (hp.1 x hx)

theorem delE_mem {l : List Ent} {k : ByteArray} {x : Ent} (h : x ∈ delE l k) : x ∈ l := by
  induction l with
  | nil => simp [delE] at h
  | cons y r ih =>
    obtain ⟨a, b⟩ := y
    simp only [delE] at h
    split at h
    · simp [h]
    · rcases List.mem_cons.1 h with e | h
      · simp [e]
      · simp [ih h]

theorem delE_sorted {l : List Ent} (hs : Sorted l) (k : ByteArray) : Sorted (delE l k) := by
  induction l with
  | nil => simp [delE, Sorted]
  | cons y r ih =>
    obtain ⟨a, b⟩ := y
    have hp := List.pairwise_cons.1 hs
    simp only [delE]
    split
    · exact hp.2
    · exact List.pairwise_cons.2 ⟨fun x hx => hp.1 x (delE_mem hx), ih hp.2⟩

theorem getE_putE (l : List Ent) (hs : Sorted l) (k v j : ByteArray) : getE (putE l k v) j = if k = j then some v else getE l j := by
  induction l with
  | nil => simp [putE, getE]
  | cons y r ih =>
    obtain ⟨a, b⟩ := y
    have hp := List.pairwise_cons.1 hs
    simp only [putE]
    split
    · rename_i h
      simp only [getE, ih hp.2]
      by_cases e : a = j
      · have : k ≠ j := fun e2 => KLt.irrefl k (by rw [e, ← e2] at h; exact h)
        simp [e, this]
      · simp [e]
    · split
      · rename_i e
        simp only [getE, e]
        by_cases e2 : k = j <;> simp [e2]
      · simp only [getE]

theorem getE_delE (l : List Ent) (hs : Sorted l) (k j : ByteArray) : getE (delE l k) j = if k = j then none else getE l j := by
  induction l with
  | nil => simp [delE, getE]
  | cons y r ih =>
    obtain ⟨a, b⟩ := y
    have hp := List.pairwise_cons.1 hs
    simp only [delE]
    split
    · rename_i e
      simp only [getE]
      by_cases e2 : k = j
      · simp only [e2, if_true]
        rw [getE_none]
        intro hm
        obtain ⟨x, hx, hx2⟩ := List.mem_map.1 hm
        have := hp.1 x hx
        simp only [hx2, e, e2] at this
        exact KLt.irrefl j this
      · simp [e, e2]
    · rename_i e
      simp only [getE, ih hp.2]
      by_cases e2 : a = j
      · have : k ≠ j := fun e3 => e (e2.trans e3.symm)
        simp [e2, this]
      · simp [e2]

/-- What was ahead of a change. -/
structure Was where
  key : ByteArray
  val : ByteArray
  there : Bool

/-- A store: entries in order, and what can be undone. -/
structure St where
  ents : List Ent
  past : List Was

def emptyB : ByteArray := ⟨#[]⟩

def St.get (s : St) (k : ByteArray) : Option ByteArray := getE s.ents k
def St.val (s : St) (k : ByteArray) : ByteArray := (getE s.ents k).getD emptyB
def St.was (s : St) (k : ByteArray) : Was := ⟨k, s.val k, (getE s.ents k).isSome⟩
def layE (l : List Ent) (k v : ByteArray) (there : Bool) : List Ent := if there then putE l k v else delE l k
def St.lay (s : St) (k v : ByteArray) (there : Bool) : St := { s with ents := layE s.ents k v there }
def St.set (s : St) (k v : ByteArray) : St := if getE s.ents k = some v then s else ⟨putE s.ents k v, s.past ++ [s.was k]⟩
def St.del (s : St) (k : ByteArray) : St := if (getE s.ents k).isSome then ⟨delE s.ents k, s.past ++ [s.was k]⟩ else s
def St.size (s : St) : Nat := s.ents.length + s.past.length

theorem layE_sorted {l : List Ent} (hs : Sorted l) (k v : ByteArray) (t : Bool) : Sorted (layE l k v t) := by
  unfold layE; split
  · exact putE_sorted hs k v
  · exact delE_sorted hs k

theorem putE_length (l : List Ent) (k v : ByteArray) : (putE l k v).length ≤ l.length + 1 := by
  induction l with
  | nil => simp [putE]
  | cons y r ih =>
    obtain ⟨a, b⟩ := y
    simp only [putE]; split
    · simpa using ih
    · split <;> simp

theorem delE_length (l : List Ent) (k : ByteArray) : (delE l k).length ≤ l.length := by
  induction l with
  | nil => simp [delE]
  | cons y r ih =>
    obtain ⟨a, b⟩ := y
    simp only [delE]; split
    · simp
    · simpa using ih

theorem St.set_size (s : St) (k v : ByteArray) : (s.set k v).size ≤ s.size + 2 := by
  unfold St.set St.size; split
  · omega
  · have := putE_length s.ents k v; simp; omega

theorem St.del_size (s : St) (k : ByteArray) : (s.del k).size ≤ s.size + 1 := by
  unfold St.del St.size; split
  · have := delE_length s.ents k; simp; omega
  · omega

theorem St.set_sorted {s : St} (h : Sorted s.ents) (k v : ByteArray) : Sorted (s.set k v).ents := by
  unfold St.set; split
  · exact h
  · exact putE_sorted h k v

theorem St.del_sorted {s : St} (h : Sorted s.ents) (k : ByteArray) : Sorted (s.del k).ents := by
  unfold St.del; split
  · exact delE_sorted h k
  · exact h

/-- The keys behind put: as they were, or one more at its place. -/
theorem putE_keys_mem {l : List Ent} (hs : Sorted l) (k v : ByteArray) (h : k ∈ l.map Prod.fst) : (putE l k v).map Prod.fst = l.map Prod.fst := by
  induction l with
  | nil => simp at h
  | cons y r ih =>
    obtain ⟨a, b⟩ := y
    have hp := List.pairwise_cons.1 hs
    simp only [putE]
    simp only [List.map_cons, List.mem_cons] at h
    by_cases h1 : KLt a k
    · rcases h with h | h
      · exact absurd h.symm h1.ne
      · simp [h1, ih hp.2 h]
    · by_cases e : a = k
      · simp [e, KLt.irrefl]
      · rcases h with h | h
        · exact absurd h.symm e
        · obtain ⟨x, hx, rfl⟩ := List.mem_map.1 h
          exact absurd (hp.1 x hx) h1

theorem putE_keys_not {l : List Ent} (hs : Sorted l) (k v : ByteArray) (h : k ∉ l.map Prod.fst) :
    (putE l k v).map Prod.fst = (l.map Prod.fst).take (lb (l.map Prod.fst) k) ++ k :: (l.map Prod.fst).drop (lb (l.map Prod.fst) k) := by
  induction l with
  | nil => simp [putE]
  | cons y r ih =>
    obtain ⟨a, b⟩ := y
    have hp := List.pairwise_cons.1 hs
    simp only [List.map_cons, List.mem_cons, not_or] at h
    simp only [putE, List.map_cons, lb_cons]
    by_cases h1 : KLt a k
    · simp [h1, ih hp.2 h.2]
    · simp [h1, Ne.symm h.1]

theorem putE_keys_in {l : List Ent} (hs : Sorted l) {k : ByteArray} (v : ByteArray) (h : (getE l k).isSome = true) : (putE l k v).map Prod.fst = l.map Prod.fst := by
  refine putE_keys_mem hs k v ?_
  obtain ⟨x, hx⟩ := Option.isSome_iff_exists.1 h
  exact List.mem_map.2 ⟨_, getE_mem hx, rfl⟩

theorem putE_keys_new {l : List Ent} (hs : Sorted l) {k : ByteArray} (v : ByteArray) (h : (getE l k).isSome = false) :
    (putE l k v).map Prod.fst = (l.map Prod.fst).take (lb (l.map Prod.fst) k) ++ k :: (l.map Prod.fst).drop (lb (l.map Prod.fst) k) :=
  putE_keys_not hs k v (getE_none.1 (by simpa using h))

theorem delE_keys {l : List Ent} (hs : Sorted l) {k : ByteArray} (h : (getE l k).isSome = true) :
    (delE l k).map Prod.fst = (l.map Prod.fst).take (lb (l.map Prod.fst) k) ++ (l.map Prod.fst).drop (lb (l.map Prod.fst) k + 1) := by
  induction l with
  | nil => simp [getE] at h
  | cons y r ih =>
    obtain ⟨a, b⟩ := y
    have hp := List.pairwise_cons.1 hs
    simp only [delE, List.map_cons, lb_cons]
    by_cases e : a = k
    · simp [e, KLt.irrefl]
    · simp only [getE, e, if_false] at h
      obtain ⟨v, hv⟩ := Option.isSome_iff_exists.1 h
      have hlt : KLt a k := hp.1 _ (getE_mem hv)
      simp [e, hlt, ih hp.2 h]

theorem delE_keys_not {l : List Ent} {k : ByteArray} (h : (getE l k).isSome = false) : delE l k = l := by
  induction l with
  | nil => rfl
  | cons y r ih =>
    obtain ⟨a, b⟩ := y
    by_cases e : a = k
    · simp [getE, e] at h
    · simp only [getE, e, if_false] at h
      simp [delE, e, ih h]

/-- At its place stands the key, if it is there at all. -/
theorem lb_at {l : List ByteArray} (hs : KSorted l) {k : ByteArray} (h : k ∈ l) : ∃ hlt : lb l k < l.length, l[lb l k] = k := by
  obtain ⟨i, hi, rfl⟩ := List.getElem_of_mem h
  have : lb l l[i] = i := lb_unique hs _ i (by omega) (fun j hj hji => List.pairwise_iff_getElem.1 hs j i hj hi hji) (fun j hj hij => by
    rcases Nat.eq_or_lt_of_le hij with e | e
    · subst e; exact KLt.irrefl _
    · exact (List.pairwise_iff_getElem.1 hs i j hi hj e).asymm)
  exact ⟨by rw [this]; exact hi, by simp only [this]⟩

/-- Rows of keys: a key's place among all is its place in the row in which it belongs. -/
theorem lb_append_left {A B : List ByteArray} {k : ByteArray} (h : lb A k < A.length) : lb (A ++ B) k = lb A k := by
  induction A with
  | nil => simp at h
  | cons x A ih =>
    simp only [List.cons_append, lb_cons] at h ⊢
    by_cases hx : KLt x k
    · simp only [hx, if_true, List.length_cons] at h ⊢
      rw [ih (by omega)]
    · simp [hx]

theorem lb_append_right {A B : List ByteArray} {k : ByteArray} (h : ∀ x ∈ A, KLt x k) : lb (A ++ B) k = A.length + lb B k := by
  induction A with
  | nil => simp
  | cons x A ih =>
    have hx := h x (by simp)
    simp only [List.cons_append, lb_cons, hx, if_true, List.length_cons, ih (fun y hy => h y (by simp [hy]))]
    omega

theorem lb_full {A : List ByteArray} {k : ByteArray} (h : ∀ x ∈ A, KLt x k) : lb A k = A.length := by
  have := lb_append_right (B := []) h; simpa [lb_nil] using this

end Go.Proofs.Ytgnnnjabgoadaaa
