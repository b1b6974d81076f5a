/- What is proved here: plain facts on a set's strategies: keys of a set stand in the order of their third numbers; they rise. What Parse says of such keys. No program is walked. Condition: no entry lies at the empty key. -/
import Derived.Test.YtnblhjndngpbnaaGreatServC
import Derived.Test.YtnblhjndngpbnaaGreatIntsQ
import Derived.Test.YtnblhjndngpbnaaGreatTwoX
namespace Go.Proofs.YtnblhjndngpbnaaGreat
open Go.RowKit

theorem fold_lt : ∀ (l1 l2 : List UInt8) (x y : Nat), l1.length = l2.length → x < y → l1.foldl (fun x b => x * 256 + b.toNat) x < l2.foldl (fun x b => x * 256 + b.toNat) y
  | [], [], x, y, _, h => h
  | [], _ :: _, _, _, hl, _ => by simp at hl
  | _ :: _, [], _, _, hl, _ => by simp at hl
  | a :: l1, b :: l2, x, y, hl, h => by
    simp only [List.foldl_cons]
    have := UInt8.toNat_lt a
    exact fold_lt l1 l2 _ _ (by simpa using hl) (by omega)
theorem lex_fold : ∀ (l1 l2 : List UInt8) (x : Nat), l1.length = l2.length → l1 < l2 → l1.foldl (fun x b => x * 256 + b.toNat) x < l2.foldl (fun x b => x * 256 + b.toNat) x
  | [], [], x, _, h => absurd h (by simp)
  | [], _ :: _, _, hl, _ => by simp at hl
  | _ :: _, [], _, hl, _ => by simp at hl
  | a :: l1, b :: l2, x, hl, h => by
    simp only [List.foldl_cons]
    rcases List.cons_lt_cons_iff.1 h with h2 | ⟨e, h2⟩
    · have : a.toNat < b.toNat := h2
      exact fold_lt l1 l2 _ _ (by simpa using hl) (by omega)
    · rw [e]; exact lex_fold l1 l2 _ (by simpa using hl) h2
theorem be_be8 {x : Nat} (hx : x < 9223372036854775808) : be (be8 x) = x := by
  have h2 := numsL_numB x hx
  rw [numB_list, numsL_step _ (by rw [be8_len]; omega), List.take_of_length_le (by rw [be8_len]; omega), List.drop_of_length_le (by rw [be8_len]; omega)] at h2
  split at h2
  · simp [numsL] at h2; exact h2
  · cases h2
theorem be8_lt {x y : Nat} (hx : x < 9223372036854775808) (hy : y < 9223372036854775808) (h : be8 x < be8 y) : x < y := by
  have := lex_fold (be8 x) (be8 y) 0 (by rw [be8_len, be8_len]) h
  have e1 := be_be8 hx
  have e2 := be_be8 hy
  unfold be at e1 e2
  omega
theorem app_lt : ∀ (p a b : List UInt8), p ++ a < p ++ b → a < b
  | [], _, _, h => h
  | c :: p, a, b, h => by
    rcases List.cons_lt_cons_iff.1 h with h2 | ⟨_, h2⟩
    · exact absurd h2 (by simp)
    · exact app_lt p a b h2
theorem key_lt {t a n x y : Nat} (hx : x < 9223372036854775808) (hy : y < 9223372036854775808) (h : KLt (keyL t (asInts [a, n, x])) (keyL t (asInts [a, n, y]))) : x < y := by
  unfold KLt at h
  rw [keyL_list, keyL_list] at h
  simp only [List.flatMap_cons, List.flatMap_nil, List.append_nil] at h
  have h1 : be8 a ++ (be8 n ++ be8 x) < be8 a ++ (be8 n ++ be8 y) := app_lt [UInt8.ofNat t] _ _ h
  exact be8_lt hx hy (app_lt (be8 n) _ _ (app_lt (be8 a) _ _ h1))

/-- A set's key, with its third number. -/
theorem third_key {s : St} {a n : Int} (ha0 : 0 ≤ a) (ha : a < 9223372036854775808) (hn0 : 0 ≤ n) (hn : n < 9223372036854775808) {x : Ent} (hx : x ∈ underE (keyL 23 [a, n]) s.ents) {y : Nat × Nat × Nat} (h : nums3 x.1 = some y) : ∃ z : Nat, y.2.2 = z ∧ z < 9223372036854775808 ∧ x.1 = keyL 23 (asInts [a.toNat, n.toNat, z]) := by
  unfold nums3 at h
  split at h
  · rename_i t p q r hp
    cases h
    obtain ⟨h1, h2⟩ := key_parse hp
    unfold underE at hx
    have hpre := (List.mem_filter.1 hx).2
    have e1 : keyL 23 [a, n] = keyL 23 (asInts [a.toNat, n.toNat]) := by
      have e2 : asInts [a.toNat, n.toNat] = [a, n] := by simp [asInts]; omega
      rw [e2]
    rw [h1, e1] at hpre
    obtain ⟨e3, e4, e5⟩ := pre23 (by omega) (by omega) (h2 p (by simp)) (h2 q (by simp)) hpre
    refine ⟨r, rfl, h2 r (by simp), ?_⟩
    rw [h1]
    have hk : ∀ l, keyL t (asInts l) = keyL 23 (asInts l) := fun l => ba_ext (by rw [keyL_list, keyL_list, e3])
    rw [hk, ← e4, ← e5]
  · cases h

theorem filterMap_pair {α β : Type} {R : α → α → Prop} {Q : β → β → Prop} (f : α → Option β) : ∀ (l : List α), l.Pairwise R → (∀ x ∈ l, ∀ y ∈ l, R x y → ∀ u v, f x = some u → f y = some v → Q u v) → (l.filterMap f).Pairwise Q
  | [], _, _ => List.Pairwise.nil
  | x :: l, h, hq => by
    have ih := filterMap_pair f l (List.pairwise_cons.1 h).2 fun a ha b hb => hq a (List.mem_cons.2 (.inr ha)) b (List.mem_cons.2 (.inr hb))
    rw [List.filterMap_cons]
    cases hf : f x with
    | none => simpa [hf] using ih
    | some u =>
      simp only
      refine List.pairwise_cons.2 ⟨fun v hv => ?_, ih⟩
      obtain ⟨y, hy, he⟩ := List.mem_filterMap.1 hv
      exact hq x (List.mem_cons.2 (.inl rfl)) y (List.mem_cons.2 (.inr hy)) ((List.pairwise_cons.1 h).1 y hy) u v hf he

/-- A set's strategies rise. -/
theorem strU_rise {s : St} (hs : Sorted s.ents) {a n : Int} (ha0 : 0 ≤ a) (ha : a < 9223372036854775808) (hn0 : 0 ≤ n) (hn : n < 9223372036854775808) : (strU s a n).Pairwise (· < ·) := by
  unfold strU
  refine filterMap_pair (R := fun x y : Ent => KLt x.1 y.1) thirdOf _ (List.Pairwise.filter _ hs) fun x hx y hy hxy u v hu hv => ?_
  unfold thirdOf at hu hv
  rw [Option.map_eq_some_iff] at hu hv
  obtain ⟨p, hp, rfl⟩ := hu
  obtain ⟨q, hq, rfl⟩ := hv
  obtain ⟨z1, e1, l1, k1⟩ := third_key ha0 ha hn0 hn hx hp
  obtain ⟨z2, e2, l2, k2⟩ := third_key ha0 ha hn0 hn hy hq
  rw [k1, k2] at hxy
  have := key_lt l1 l2 hxy
  omega
theorem strU_len (s : St) (a n : Int) : (strU s a n).length ≤ s.ents.length := Nat.le_trans (filterMap_len _ _) (underE_len _ _)
theorem strU_mem {s : St} {a n x : Int} (h : x ∈ strU s a n) : 0 ≤ x := by
  obtain ⟨e, _, he⟩ := List.mem_filterMap.1 h
  unfold thirdOf at he
  rw [Option.map_eq_some_iff] at he
  obtain ⟨p, _, rfl⟩ := he
  omega
theorem strU_lt {s : St} {a n x : Int} (ha0 : 0 ≤ a) (ha : a < 9223372036854775808) (hn0 : 0 ≤ n) (hn : n < 9223372036854775808) (h : x ∈ strU s a n) : x < 9223372036854775808 := by
  obtain ⟨e, hx, he⟩ := List.mem_filterMap.1 h
  unfold thirdOf at he
  rw [Option.map_eq_some_iff] at he
  obtain ⟨p, hp, rfl⟩ := he
  obtain ⟨z1, e1, l1, k1⟩ := third_key ha0 ha hn0 hn hx hp
  omega

/-- A set that is there has numbers that are none below nought. -/
theorem there_of {s : St} (h : NoE s) {a n : Int} (h1 : sThere s a n = true) : 0 ≤ a ∧ 0 ≤ n := by
  unfold sThere at h1
  rw [Bool.and_eq_true, decide_eq_true_iff, decide_eq_true_iff] at h1
  refine ⟨?_, h1.1⟩
  refine Decidable.byContradiction fun hno => ?_
  have he : keyL 22 [a] = emptyB := keyL_neg (n := a) (List.mem_singleton.2 rfl) (by omega)
  have h2 : sSets s a = 0 := by
    unfold sSets St.int
    rw [he, show s.val emptyB = emptyB from h, intOfV_empty]
  omega

/-- Keys that are no empty one, and short. -/
def PK (k : ByteArray) : Prop := k ≠ emptyB ∧ k.size ≤ 100
theorem KeysP.noE {s : St} (h : KeysP PK s) : NoE s := by
  unfold NoE St.val
  cases hg : getE s.ents emptyB with
  | none => rfl
  | some v => exact absurd rfl (h _ (getE_mem hg)).1
theorem KeysP.putK {s : St} (h : KeysP PK s) {k : ByteArray} (hk : k.size ≤ 100) (v : ByteArray) : KeysP PK (s.put k v) := by
  unfold St.put
  split
  · exact h.del k
  · split
    · exact h
    · exact h.set ⟨by assumption, hk⟩ v
theorem KeysP.setIntK {s : St} (h : KeysP PK s) {k : ByteArray} (hk : k.size ≤ 100) (n : Int) : KeysP PK (s.setInt k n) := h.putK hk _
theorem KeysP.short {s : St} (h : KeysP PK s) : ∀ x ∈ s.ents, x.1.size < 1000000000000 := fun x hx => by have := (h x hx).2; omega

theorem parse_n3 {w w' : World} {k : ByteArray} {e : Ending} (h : RetParse w (parseK k) e w') {y : Nat × Nat × Nat} (hn : nums3 k = some y) : ∃ (t : Int) (g c : Nat), e = .returned (.tuple #[.int .i64 t, .slice (some ⟨g, 0, none⟩) 3 c, .bool true]) ∧ ∀ w2, Below w'.heap.size w' w2 → w2.cell? ⟨g, 2, none⟩ = some (.int .i64 y.2.2) := by
  unfold nums3 at hn
  cases hp : parseK k with
  | none => rw [hp] at hn; cases hn
  | some p =>
    obtain ⟨t, ns⟩ := p
    rw [hp] at hn h
    match ns, hn with
    | [_, _, _], hn =>
      cases hn
      obtain ⟨_, v, he, ho, _⟩ := h
      obtain ⟨g, c, rfl, hc⟩ := own_three ho
      exact ⟨t, g, c, he, fun w2 hb => (hc w2 hb).2.2⟩
theorem parse_n3no {w w' : World} {k : ByteArray} {e : Ending} (h : RetParse w (parseK k) e w') (hn : nums3 k = none) : ∃ (t : Int) (a : Option Addr) (m c : Nat) (ok : Bool), e = .returned (.tuple #[.int .i64 t, .slice a m c, .bool ok]) ∧ ((m : Int) == 3) = false := by
  unfold nums3 at hn
  cases hp : parseK k with
  | none =>
    rw [hp] at h
    obtain ⟨_, he⟩ := h
    exact ⟨0, none, 0, 0, false, he, by decide⟩
  | some y =>
    obtain ⟨t, ns⟩ := y
    rw [hp] at hn h
    obtain ⟨_, v, he, ho, _⟩ := h
    obtain ⟨a, c, rfl, _⟩ := ho.form
    refine ⟨t, a, ns.length, c, true, he, ?_⟩
    rw [beq_eq_false_iff_ne]
    intro e1
    have h1 : ns.length = 3 := by omega
    match ns, h1 with
    | [_, _, _], _ => cases hn
end Go.Proofs.YtnblhjndngpbnaaGreat
