/- What is proved here: keys of any numbers: a key is parsed back, and what parses is a key; a key of two numbers that leads one of three. No program's function is named. No condition. -/
import Derived.Test.YtnblhjndngpbnaaGreatVault
import Derived.Test.YtnblhjndngpbnaaGreatParse
import Derived.Test.YtnblhjndngpbnaaGreatUnder
namespace Go.Proofs.YtnblhjndngpbnaaGreat

theorem be_inj' : ∀ (l1 l2 : List UInt8) (x y : Nat), l1.length = l2.length → l1.foldl (fun x b => x * 256 + b.toNat) x = l2.foldl (fun x b => x * 256 + b.toNat) y → x = y ∧ l1 = l2
  | [], [], x, y, _, h => ⟨h, rfl⟩
  | [], _ :: _, _, _, hl, _ => by simp at hl
  | _ :: _, [], _, _, hl, _ => by simp at hl
  | a :: l1, b :: l2, x, y, hl, h => by
    simp only [List.foldl_cons] at h
    obtain ⟨h1, h2⟩ := be_inj' l1 l2 _ _ (by simpa using hl) h
    have ha := UInt8.toNat_lt a
    have hb := UInt8.toNat_lt b
    have hab : a.toNat = b.toNat := by omega
    exact ⟨by omega, by rw [h2, UInt8.toNat_inj.1 hab]⟩

theorem be8_be {r : List UInt8} (hl : r.length = 8) (hb : be r < 9223372036854775808) : be8 (be r) = r := by
  have h2 := numsL_numB (be r) hb
  rw [numB_list, numsL_step _ (by rw [be8_len]; omega), List.take_of_length_le (by rw [be8_len]; omega), List.drop_of_length_le (by rw [be8_len]; omega)] at h2
  split at h2
  · simp [numsL] at h2
    exact ((be_inj' r (be8 (be r)) 0 0 (by rw [be8_len]; omega) h2.symm).2).symm
  · cases h2

theorem be8_inj {x y : Nat} (hx : x < 9223372036854775808) (hy : y < 9223372036854775808) (h : be8 x = be8 y) : x = y := by
  have h1 := numsL_numB x hx
  have h2 := numsL_numB y hy
  rw [numB_list] at h1 h2
  rw [h, h2] at h1
  injection h1 with h1
  injection h1 with h1
  exact h1.symm

theorem numsL_inv : ∀ (ns : List Nat) (r : List UInt8), numsL r = some ns → r = ns.flatMap be8 ∧ ∀ x ∈ ns, x < 9223372036854775808
  | [], r, h => by
    have hl := numsL_len r.length r [] (Nat.le_refl _) h
    simp at hl
    subst hl
    exact ⟨rfl, fun x hx => by cases hx⟩
  | n :: ns, r, h => by
    have hl := numsL_len r.length r (n :: ns) (Nat.le_refl _) h
    simp at hl
    rw [numsL_step _ (by omega)] at h
    split at h
    · next hb =>
      rw [Option.map_eq_some_iff] at h
      obtain ⟨ms, hm, e⟩ := h
      injection e with e1 e2
      subst e1
      subst e2
      obtain ⟨h1, h2⟩ := numsL_inv _ _ hm
      refine ⟨?_, fun x hx => ?_⟩
      · rw [List.flatMap_cons, ← h1, be8_be (by rw [List.length_take]; omega) hb, List.take_append_drop]
      · rcases List.mem_cons.1 hx with rfl | hx
        · exact hb
        · exact h2 x hx
    · cases h

/-- A list of numbers, as ints. -/
def asInts (ns : List Nat) : List Int := ns.map fun (n : Nat) => (n : Int)
theorem keyL_list (t : Nat) (ns : List Nat) : (keyL t (asInts ns)).data.toList = UInt8.ofNat t :: ns.flatMap be8 := by
  rw [keyL_pos (by intro x hx; obtain ⟨n, _, rfl⟩ := List.mem_map.1 hx; omega)]
  simp [keyBytes, asInts, List.flatMap_map]

theorem key_parse {k : ByteArray} {t : Nat} {ns : List Nat} (h : parseK k = some (t, ns)) : k = keyL t (asInts ns) ∧ ∀ x ∈ ns, x < 9223372036854775808 := by
  unfold parseK at h
  cases hk : k.data.toList with
  | nil => rw [hk] at h; cases h
  | cons b r =>
    rw [hk] at h
    have h' : (if b = 0 then none else (numsL r).map fun ns => (b.toNat, ns)) = some (t, ns) := h
    split at h'
    · cases h'
    · rw [Option.map_eq_some_iff] at h'
      obtain ⟨ms, hm, e⟩ := h'
      injection e with e1 e2
      subst e1
      subst e2
      obtain ⟨h1, h2⟩ := numsL_inv _ _ hm
      refine ⟨?_, h2⟩
      have : k.data.toList = (keyL b.toNat (asInts ms)).data.toList := by rw [keyL_list, hk, ← h1, UInt8.ofNat_toNat]
      exact congrArg ByteArray.mk (Array.toList_inj.1 this)

theorem parse_keyL {t : Nat} (h1 : 1 ≤ t) (h2 : t ≤ 255) {ns : List Nat} (h : ∀ x ∈ ns, x < 9223372036854775808) : parseK (keyL t (asInts ns)) = some (t, ns) := by
  unfold parseK
  rw [keyL_list]
  have h0 : UInt8.ofNat t ≠ 0 := fun e => by
    have := congrArg UInt8.toNat e
    rw [UInt8.toNat_ofNat'] at this
    have h3 : (0 : UInt8).toNat = 0 := rfl
    rw [h3] at this
    omega
  show (if UInt8.ofNat t = 0 then none else (numsL (ns.flatMap be8)).map fun ns => ((UInt8.ofNat t).toNat, ns)) = _
  rw [if_neg h0]
  have h3 := numsL_row (asInts ns) (by intro n hn; obtain ⟨m, hm, rfl⟩ := List.mem_map.1 hn; have := h m hm; omega)
  have h4 : rowBy (asInts ns) = ns.flatMap be8 := by simp [rowBy, asInts, List.flatMap_map]
  have h5 : (asInts ns).map (·.toNat) = ns := by simp [asInts, Function.comp_def]
  rw [h4, h5] at h3
  rw [h3, UInt8.toNat_ofNat', Option.map_some]
  have : t % 256 = t := by omega
  rw [this]

theorem keyL_inj {t u : Nat} (ht1 : 1 ≤ t) (ht : t ≤ 255) (hu1 : 1 ≤ u) (hu : u ≤ 255) {ns ms : List Nat} (hn : ∀ x ∈ ns, x < 9223372036854775808) (hm : ∀ x ∈ ms, x < 9223372036854775808) (h : keyL t (asInts ns) = keyL u (asInts ms)) : t = u ∧ ns = ms := by
  have h1 := parse_keyL ht1 ht hn
  rw [h, parse_keyL hu1 hu hm] at h1
  injection h1 with h1
  injection h1 with h1 h2
  exact ⟨h1.symm, h2.symm⟩

theorem pre23 {t u a n x0 x1 x2 : Nat} (ha : a < 9223372036854775808) (hn : n < 9223372036854775808) (h0 : x0 < 9223372036854775808) (h1 : x1 < 9223372036854775808) (h : isPre (keyL t (asInts [a, n])) (keyL u (asInts [x0, x1, x2])) = true) : UInt8.ofNat t = UInt8.ofNat u ∧ a = x0 ∧ n = x1 := by
  rw [isPre_iff, keyL_list, keyL_list] at h
  simp only [List.flatMap_cons, List.flatMap_nil, List.append_nil] at h
  rw [List.cons_prefix_cons] at h
  obtain ⟨e, r, h⟩ := h
  rw [List.append_assoc] at h
  obtain ⟨e1, h⟩ := List.append_inj h (by rw [be8_len, be8_len])
  obtain ⟨e2, _⟩ := List.append_inj h (by rw [be8_len, be8_len])
  exact ⟨e, be8_inj ha h0 e1, be8_inj hn h1 e2⟩
theorem pre_of23 (t a n x2 : Nat) : isPre (keyL t (asInts [a, n])) (keyL t (asInts [a, n, x2])) = true := by
  rw [isPre_iff, keyL_list, keyL_list]
  simp only [List.flatMap_cons, List.flatMap_nil, List.append_nil]
  exact ⟨be8 x2, by simp⟩
end Go.Proofs.YtnblhjndngpbnaaGreat
