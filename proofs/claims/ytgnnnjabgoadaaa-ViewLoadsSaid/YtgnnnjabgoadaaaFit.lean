/- What is proved here: plain facts on states: how great they grow, how long their values are. No program is named. No condition. -/
import Derived.Test.YtgnnnjabgoadaaaCellG
namespace Go.Proofs.Ytgnnnjabgoadaaa

/-- Entries and changes are at most m, all values short. -/
structure St.Fit (s : St) (m : Nat) : Prop where
  size : s.size ≤ m
  srt : Sorted s.ents
  vals : ∀ e ∈ s.ents, e.2.size ≤ 1000000
  pvals : ∀ x ∈ s.past, x.val.size ≤ 1000000

theorem St.Fit.empty : emptySt.Fit 0 := ⟨by decide, List.Pairwise.nil, by simp [emptySt], by simp [emptySt]⟩
theorem St.Fit.mono {s : St} {m n : Nat} (h : s.Fit m) (hn : m ≤ n) : s.Fit n := ⟨Nat.le_trans h.size hn, h.srt, h.vals, h.pvals⟩
theorem St.Fit.val {s : St} {m : Nat} (h : s.Fit m) (k : ByteArray) : (s.val k).size ≤ 1000000 := by
  unfold St.val
  cases hg : getE s.ents k with
  | none => show emptyB.size ≤ _; decide
  | some v => exact h.vals _ (getE_mem hg)
theorem St.Fit.val' {s : St} {m : Nat} (h : s.Fit m) (k : ByteArray) : (s.val k).size < 1000000000000 := by have := h.val k; omega

theorem St.Fit.set {s : St} {m : Nat} (h : s.Fit m) (k : ByteArray) {v : ByteArray} (hv : v.size ≤ 1000000) : (s.set k v).Fit (m + 2) := by
  refine ⟨Nat.le_trans (s.set_size k v) (by have := h.size; omega), St.set_sorted h.srt k v, fun e he => ?_, fun x hx => ?_⟩
  · unfold St.set at he
    split at he
    · exact h.vals e he
    · rcases putE_mem he with rfl | he
      · exact hv
      · exact h.vals e he
  · unfold St.set at hx
    split at hx
    · exact h.pvals x hx
    · rcases List.mem_append.1 hx with hx | hx
      · exact h.pvals x hx
      · rw [List.mem_singleton.1 hx]; exact h.val k
theorem St.Fit.del {s : St} {m : Nat} (h : s.Fit m) (k : ByteArray) : (s.del k).Fit (m + 2) := by
  refine ⟨Nat.le_trans (s.del_size k) (by have := h.size; omega), St.del_sorted h.srt k, fun e he => ?_, fun x hx => ?_⟩
  · unfold St.del at he
    split at he
    · exact h.vals e (delE_mem he)
    · exact h.vals e he
  · unfold St.del at hx
    split at hx
    · rcases List.mem_append.1 hx with hx | hx
      · exact h.pvals x hx
      · rw [List.mem_singleton.1 hx]; exact h.val k
    · exact h.pvals x hx
theorem St.Fit.put {s : St} {m : Nat} (h : s.Fit m) (k : ByteArray) {v : ByteArray} (hv : v.size ≤ 1000000) : (s.put k v).Fit (m + 2) := by
  unfold St.put
  split
  · exact h.del k
  · split
    · exact h.mono (by omega)
    · exact h.set k hv
theorem St.Fit.setInt {s : St} {m : Nat} (h : s.Fit m) (k : ByteArray) (n : Int) : (s.setInt k n).Fit (m + 2) := by
  unfold St.setInt
  refine h.put k ?_
  split
  · decide
  · rw [show (numB n.toNat).size = 8 from rfl]; decide

theorem rowOf_numB (n : Nat) (hn : n < 9223372036854775808) : rowOf (numB n) = [n] := by unfold rowOf; rw [numsL_numB n hn]; rfl
theorem intOfV_numB (n : Nat) (hn : n < 9223372036854775808) : intOfV (numB n) = n := by unfold intOfV; rw [rowOf_numB n hn]
theorem intOfV_empty : intOfV emptyB = 0 := rfl

theorem val_put (s : St) (hs : Sorted s.ents) (k v j : ByteArray) (hk : k ≠ emptyB) : (s.put k v).val j = if k = j then v else s.val j := by
  unfold St.put
  by_cases hv : v = emptyB
  · rw [if_pos hv]
    unfold St.del
    by_cases hg : (getE s.ents k).isSome = true
    · rw [if_pos hg]
      unfold St.val
      simp only [getE_delE _ hs]
      by_cases e : k = j
      · simp [e, hv]
      · simp [e]
    · rw [if_neg hg]
      by_cases e : k = j
      · subst e
        have : getE s.ents k = none := by simpa using hg
        rw [if_pos rfl, hv]
        unfold St.val
        rw [this]; rfl
      · rw [if_neg e]
  · rw [if_neg hv, if_neg hk]
    unfold St.set
    by_cases hg : getE s.ents k = some v
    · rw [if_pos hg]
      by_cases e : k = j
      · subst e; rw [if_pos rfl]; unfold St.val; rw [hg]; rfl
      · rw [if_neg e]
    · rw [if_neg hg]
      unfold St.val
      simp only [getE_putE _ hs]
      by_cases e : k = j <;> simp [e]

theorem int_setInt (s : St) (hs : Sorted s.ents) (k j : ByteArray) (hk : k ≠ emptyB) (n : Int) (hn : n < 9223372036854775808) : (s.setInt k n).int j = if k = j then n.toNat else s.int j := by
  unfold St.int St.setInt
  rw [val_put s hs k _ j hk]
  by_cases e : k = j
  · rw [if_pos e, if_pos e]
    by_cases h1 : n < 1
    · rw [if_pos h1, intOfV_empty]; omega
    · rw [if_neg h1, intOfV_numB _ (by omega)]
  · rw [if_neg e, if_neg e]

end Go.Proofs.Ytgnnnjabgoadaaa
