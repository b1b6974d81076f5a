/- What is proved here: plain facts on the entries under a beginning of keys, found by a scan of keys in order. No program is named. No condition. -/
import Derived.Test.YtgnnnjabgoadaaaStore
namespace Go.Proofs.Ytgnnnjabgoadaaa

theorem isPre_iff {p k : ByteArray} : isPre p k = true ↔ p.data.toList <+: k.data.toList := List.isPrefixOf_iff_prefix
theorem isPre_empty (k : ByteArray) : isPre ⟨#[]⟩ k = true := by rw [isPre_iff]; exact List.nil_prefix

/-- What begins with p is not ahead of p. -/
theorem pre_not_lt {p k : ByteArray} (h : isPre p k = true) : ¬ KLt k p := by
  rw [isPre_iff] at h
  obtain ⟨t, ht⟩ := h
  unfold KLt
  rw [← ht]
  generalize p.data.toList = l
  induction l with
  | nil => simp
  | cons x l ih => simp [ih]

theorem list_between : ∀ (p k k2 : List UInt8), p < k → k < k2 → p <+: k2 → p <+: k
  | [], _, _, _, _, _ => List.nil_prefix
  | x :: p, [], _, h, _, _ => by simp at h
  | x :: p, y :: k, [], _, h, _ => by simp at h
  | x :: p, y :: k, z :: k2, h1, h2, h3 => by
    rw [List.cons_prefix_cons] at h3
    obtain ⟨rfl, h3⟩ := h3
    rw [List.cons_lt_cons_iff] at h1 h2
    rcases h1 with h1 | ⟨rfl, h1⟩
    · rcases h2 with h2 | ⟨rfl, h2⟩
      · exact absurd (UInt8.lt_trans h1 h2) (UInt8.lt_irrefl _)
      · exact absurd h1 (UInt8.lt_irrefl _)
    · rcases h2 with h2 | ⟨_, h2⟩
      · exact absurd h2 (UInt8.lt_irrefl _)
      · rw [List.cons_prefix_cons]
        exact ⟨rfl, list_between p k k2 h1 h2 h3⟩

/-- Behind a key that stands behind p and does not begin with it, none does. -/
theorem pre_stop {p k k2 : ByteArray} (h1 : KLt p k) (h2 : isPre p k = false) (h3 : KLt k k2) : isPre p k2 = false := by
  rw [Bool.eq_false_iff]
  intro h
  rw [isPre_iff] at h
  have := list_between _ _ _ h1 h3 h
  rw [← isPre_iff, h2] at this
  cases this

/-- The entries under a beginning. -/
def underE (p : ByteArray) (l : List Ent) : List Ent := l.filter fun x => isPre p x.1

theorem underE_append (p : ByteArray) (a b : List Ent) : underE p (a ++ b) = underE p a ++ underE p b := List.filter_append ..
theorem underE_len (p : ByteArray) (l : List Ent) : (underE p l).length ≤ l.length := List.length_filter_le _ _
theorem underE_sorted {l : List Ent} (h : Sorted l) (p : ByteArray) : Sorted (underE p l) := h.filter _
theorem underE_all (l : List Ent) : underE ⟨#[]⟩ l = l := by
  unfold underE; rw [List.filter_eq_self]; intro x _; exact isPre_empty x.1
theorem underE_none {p : ByteArray} {l : List Ent} (h : ∀ x ∈ l, isPre p x.1 = false) : underE p l = [] := by
  unfold underE; rw [List.filter_eq_nil_iff]; intro x hx; rw [h x hx]; simp

/-- A scan that stands at entry k, its start at entry n0. -/
structure ScanTo (p : ByteArray) (l : List Ent) (n0 k : Nat) (out : List Ent) : Prop where
  out : out = underE p ((l.drop n0).take k)
  lo : ∀ x ∈ l.take n0, isPre p x.1 = false
  le : n0 + k ≤ l.length

theorem ScanTo.start {p : ByteArray} {l : List Ent} {n0 : Nat} (h : ∀ x ∈ l.take n0, KLt x.1 p) (hn : n0 ≤ l.length) : ScanTo p l n0 0 [] :=
  ⟨by simp [underE], fun x hx => by
    rw [Bool.eq_false_iff]; intro h1; exact pre_not_lt h1 (h x hx), by omega⟩

theorem ScanTo.at {l : List Ent} {n0 k : Nat} (hk : n0 + k < l.length) : ∃ x, l[n0 + k]? = some x ∧ (l.drop n0).take (k + 1) = (l.drop n0).take k ++ [x] := by
  refine ⟨l[n0 + k], List.getElem?_eq_getElem hk, ?_⟩
  rw [List.take_add_one, List.getElem?_drop, List.getElem?_eq_getElem hk]; rfl

theorem ScanTo.yes {p : ByteArray} {l : List Ent} {n0 k : Nat} {out : List Ent} (h : ScanTo p l n0 k out) {x : Ent} (hx : l[n0 + k]? = some x) (hp : isPre p x.1 = true) : ScanTo p l n0 (k + 1) (out ++ [x]) := by
  have hk : n0 + k < l.length := (List.getElem?_eq_some_iff.1 hx).1
  obtain ⟨y, hy, e⟩ := ScanTo.at hk
  rw [hx] at hy; cases hy
  exact ⟨by rw [e, underE_append, h.out]; simp [underE, hp], h.lo, by omega⟩

theorem ScanTo.no {p : ByteArray} {l : List Ent} {n0 k : Nat} {out : List Ent} (h : ScanTo p l n0 k out) {x : Ent} (hx : l[n0 + k]? = some x) (hp : isPre p x.1 = false) : ScanTo p l n0 (k + 1) out := by
  have hk : n0 + k < l.length := (List.getElem?_eq_some_iff.1 hx).1
  obtain ⟨y, hy, e⟩ := ScanTo.at hk
  rw [hx] at hy; cases hy
  exact ⟨by rw [e, underE_append, h.out]; simp [underE, hp], h.lo, by omega⟩

theorem ScanTo.split {p : ByteArray} {l : List Ent} {n0 k : Nat} {out : List Ent} (h : ScanTo p l n0 k out) : underE p l = out ++ underE p (l.drop (n0 + k)) := by
  have e : l = l.take n0 ++ ((l.drop n0).take k ++ l.drop (n0 + k)) := by
    rw [← List.drop_drop, List.take_append_drop, List.take_append_drop]
  rw (config := { occs := .pos [1] }) [e]
  rw [underE_append, underE_append, underE_none h.lo, h.out]; rfl

theorem ScanTo.done {p : ByteArray} {l : List Ent} {n0 k : Nat} {out : List Ent} (h : ScanTo p l n0 k out) (hk : l.length ≤ n0 + k) : out = underE p l := by
  rw [h.split, List.drop_of_length_le hk]; simp [underE]

theorem ScanTo.stop {p : ByteArray} {l : List Ent} (hs : Sorted l) {n0 k : Nat} {out : List Ent} (h : ScanTo p l n0 k out) {x : Ent} (hx : l[n0 + k]? = some x) (hp : isPre p x.1 = false) (hlt : KLt p x.1) : out = underE p l := by
  have hk : n0 + k < l.length := (List.getElem?_eq_some_iff.1 hx).1
  rw [h.split, underE_none, List.append_nil]
  intro y hy
  obtain ⟨j, hj, rfl⟩ := List.getElem_of_mem hy
  rw [List.getElem_drop]
  have hxe : l[n0 + k] = x := (List.getElem?_eq_some_iff.1 hx).2
  cases j with
  | zero => simp only [Nat.add_zero, hxe]; exact hp
  | succ j =>
    rw [List.length_drop] at hj
    have := List.pairwise_iff_getElem.1 hs (n0 + k) (n0 + k + (j + 1)) hk (by omega) (by omega)
    rw [hxe] at this
    exact pre_stop hlt hp this

end Go.Proofs.Ytgnnnjabgoadaaa
