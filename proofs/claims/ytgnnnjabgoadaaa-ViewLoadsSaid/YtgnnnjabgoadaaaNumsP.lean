/- What is proved here: plain facts on numbers in a text: eight bytes each, the first that is too great ends it. No program is named. No condition. -/
import Derived.Test.YtgnnnjabgoadaaaNums
namespace Go.Proofs.Ytgnnnjabgoadaaa
open Go.RowKit

/-- The number of some bytes, the first the greatest. -/
def be (l : List UInt8) : Nat := l.foldl (fun x b => x * 256 + b.toNat) 0

theorem be_nil : be [] = 0 := rfl
theorem be_snoc (l : List UInt8) (b : UInt8) : be (l ++ [b]) = be l * 256 + b.toNat := by simp [be, List.foldl_append]
theorem be_acc : ∀ (l : List UInt8) (x m : Nat), x < m → l.foldl (fun x b => x * 256 + b.toNat) x < m * 256 ^ l.length
  | [], x, m, h => by simpa using h
  | b :: l, x, m, h => by
    have := be_acc l (x * 256 + b.toNat) (m * 256) (by have := b.toNat_lt; omega)
    rw [List.foldl_cons, List.length_cons, Nat.pow_succ, Nat.mul_comm (256 ^ l.length), ← Nat.mul_assoc]
    exact this
theorem be_lt (l : List UInt8) : be l < 256 ^ l.length := by
  have := be_acc l 0 1 (by omega)
  simpa [be] using this

/-- The numbers of a text. -/
def numsL : List UInt8 → Option (List Nat)
  | [] => some []
  | a :: b :: c :: d :: e :: f :: g :: h :: r => if be [a, b, c, d, e, f, g, h] < 9223372036854775808 then (numsL r).map (be [a, b, c, d, e, f, g, h] :: ·) else none
  | _ => none

theorem numsL_step (l : List UInt8) (h : 8 ≤ l.length) : numsL l = if be (l.take 8) < 9223372036854775808 then (numsL (l.drop 8)).map (be (l.take 8) :: ·) else none := by
  match l, h with
  | a :: b :: c :: d :: e :: f :: g :: h :: r, _ => rw [numsL]; rfl

theorem numsL_len : ∀ (n : Nat) (l : List UInt8) (ns : List Nat), l.length ≤ n → numsL l = some ns → l.length = 8 * ns.length := by
  intro n
  induction n with
  | zero => intro l ns hl h; have : l = [] := List.eq_nil_of_length_eq_zero (by omega); subst this; simp [numsL] at h; subst h; rfl
  | succ n ih =>
    intro l ns hl h
    match l with
    | [] => simp [numsL] at h; subst h; rfl
    | [_] | [_, _] | [_, _, _] | [_, _, _, _] | [_, _, _, _, _] | [_, _, _, _, _, _] | [_, _, _, _, _, _, _] => simp [numsL] at h
    | a :: b :: c :: d :: e :: f :: g :: x :: r =>
      rw [numsL_step _ (by simp)] at h
      split at h
      · simp only [List.drop_succ_cons, List.drop_zero, Option.map_eq_some_iff] at h
        obtain ⟨ms, h1, rfl⟩ := h
        have := ih r ms (by simp at hl; omega) h1
        simp; omega
      · cases h

theorem numsL_mod (l : List UInt8) (h : l.length % 8 ≠ 0) : numsL l = none := by
  cases hn : numsL l with
  | none => rfl
  | some ns => have := numsL_len l.length l ns (Nat.le_refl _) hn; omega

theorem take_snoc' (l : List UInt8) (k : Nat) (h : k < l.length) : l.take (k + 1) = l.take k ++ [l[k]] := by
  rw [List.take_succ_eq_append_getElem h]

/-- One byte more of the number in the making. -/
theorem be_step (l : List UInt8) (k i : Nat) (h : 8 * k + i < l.length) : be ((l.drop (8 * k)).take (i + 1)) = be ((l.drop (8 * k)).take i) * 256 + (l[8 * k + i]'h).toNat := by
  rw [take_snoc' _ _ (by rw [List.length_drop]; omega), be_snoc, List.getElem_drop]

theorem be_small (l : List UInt8) (i : Nat) (h : i < 8) : be (l.take i) < 72057594037927936 := by
  have h1 := be_lt (l.take i)
  have h2 : (l.take i).length ≤ 7 := by rw [List.length_take]; omega
  have h3 : (256 : Nat) ^ (l.take i).length ≤ 256 ^ 7 := Nat.pow_le_pow_right (by omega) h2
  have h4 : (256 : Nat) ^ 7 = 72057594037927936 := by decide
  omega

theorem be_small8 (l : List UInt8) : be (l.take 8) < 18446744073709551616 := by
  have h1 := be_lt (l.take 8)
  have h2 : (l.take 8).length ≤ 8 := by rw [List.length_take]; omega
  have h3 : (256 : Nat) ^ (l.take 8).length ≤ 256 ^ 8 := Nat.pow_le_pow_right (by omega) h2
  have h4 : (256 : Nat) ^ 8 = 18446744073709551616 := by decide
  omega

/-- After k numbers: what is left decides. -/
def NumsTo (l : List UInt8) (R : Option (List Nat)) (k : Nat) (ns : List Nat) : Prop := ns.length = k ∧ 8 * k ≤ l.length ∧ R = (numsL (l.drop (8 * k))).map (ns ++ ·)

theorem NumsTo.start (l : List UInt8) : NumsTo l (numsL l) 0 [] := ⟨rfl, by omega, by simp⟩
theorem NumsTo.more {l : List UInt8} {R : Option (List Nat)} {k : Nat} {ns : List Nat} (h : NumsTo l R k ns) (hl : 8 * k + 8 ≤ l.length) (hb : be ((l.drop (8 * k)).take 8) < 9223372036854775808) : NumsTo l R (k + 1) (ns ++ [be ((l.drop (8 * k)).take 8)]) := by
  refine ⟨by simp [h.1], by omega, ?_⟩
  rw [h.2.2, numsL_step _ (by rw [List.length_drop]; omega), if_pos hb, List.drop_drop, show 8 * k + 8 = 8 * (k + 1) by omega]
  cases numsL (l.drop (8 * (k + 1))) <;> simp
theorem NumsTo.bad {l : List UInt8} {R : Option (List Nat)} {k : Nat} {ns : List Nat} (h : NumsTo l R k ns) (hl : 8 * k + 8 ≤ l.length) (hb : ¬ be ((l.drop (8 * k)).take 8) < 9223372036854775808) : R = none := by
  rw [h.2.2, numsL_step _ (by rw [List.length_drop]; omega), if_neg hb]; rfl
theorem NumsTo.done {l : List UInt8} {R : Option (List Nat)} {k : Nat} {ns : List Nat} (h : NumsTo l R k ns) (hl : l.length ≤ 8 * k) : R = some ns := by
  rw [h.2.2, List.drop_of_length_le hl]; simp [numsL]

/-- What Nums returns. -/
def RetNumsG (w : World) (R : Option (List Nat)) (e : Ending) (w' : World) : Prop := Below w.heap.size w w' ∧
  match R with
  | some ns => ∃ v, e = .returned (.tuple #[v, .bool true]) ∧ Own w' 3 1 v ns.length (ns.map fun (n : Nat) => Value.int .i64 n) ∧ ∀ k, v.ownBlock = some k → w.heap.size ≤ k
  | none => e = .returned (.tuple #[.slice none 0 0, .bool false])

theorem RetNumsG.no {w w' : World} {R : Option (List Nat)} (h : R = none) (hb : Below w.heap.size w w') : RetNumsG w R (.returned (.tuple #[.slice none 0 0, .bool false])) w' := by
  subst h; exact ⟨hb, rfl⟩
theorem RetNumsG.yes {w w' : World} {R : Option (List Nat)} {ns : List Nat} {v : Value} {k : Nat} (h : R = some ns) (hk : ns.length = k) (hb : Below w.heap.size w w') (ho : Own w' 3 1 v k (ns.map fun (n : Nat) => Value.int .i64 n)) (hv : ∀ k, v.ownBlock = some k → w.heap.size ≤ k) : RetNumsG w R (.returned (.tuple #[v, .bool true])) w' := by
  subst h; subst hk; exact ⟨hb, v, rfl, ho, hv⟩

theorem numsL_numB (n : Nat) (hn : n < 9223372036854775808) : numsL (numB n).data.toList = some [n] := by
  have hb : be (numB n).data.toList = n := by
    have e : ∀ k : Nat, (UInt8.ofNat k).toNat = k % 256 := fun k => by simp
    have : (numB n).data.toList = [UInt8.ofNat (n / 72057594037927936), UInt8.ofNat (n / 281474976710656 % 256), UInt8.ofNat (n / 1099511627776 % 256), UInt8.ofNat (n / 4294967296 % 256), UInt8.ofNat (n / 16777216 % 256), UInt8.ofNat (n / 65536 % 256), UInt8.ofNat (n / 256 % 256), UInt8.ofNat (n % 256)] := rfl
    rw [this]
    simp only [be, List.foldl_cons, List.foldl_nil, e, Nat.zero_mul, Nat.zero_add, Nat.mod_mod]
    omega
  have hl : (numB n).data.toList.length = 8 := rfl
  rw [numsL_step _ (by omega), List.take_of_length_le (by omega), List.drop_of_length_le (by omega), hb, if_pos hn]
  rfl

end Go.Proofs.Ytgnnnjabgoadaaa
