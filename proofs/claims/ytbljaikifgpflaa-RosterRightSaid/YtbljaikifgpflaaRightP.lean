/- What is proved here: plain facts on the roster: whoever is chosen is an operator; each operator has chosen itself; what each hands on. No program's function is named. No condition. -/
import Derived.Test.YtbljaikifgpflaaRActsP
namespace Go.Proofs.Ytbljaikifgpflaa

theorem be_inj' : ∀ (l1 l2 : List UInt8) (x y : Nat), l1.length = l2.length → l1.foldl (fun x b => x * 256 + b.toNat) x = l2.foldl (fun x b => x * 256 + b.toNat) y → x = y ∧ l1 = l2
  | [], [], x, y, _, h => ⟨h, rfl⟩
  | [], _ :: _, _, _, hl, _ => by simp at hl
  | _ :: _, [], _, _, hl, _ => by simp at hl
  | a :: l1, b :: l2, x, y, hl, h => by
    simp only [List.foldl_cons] at h
    obtain ⟨h1, h2⟩ := be_inj' l1 l2 _ _ (by simpa using hl) h
    have ha := UInt8.toNat_lt a
    have hb := UInt8.toNat_lt b
    have hab : a.toNat = b.toNat := by omega
    exact ⟨by omega, by rw [h2, UInt8.toNat_inj.1 hab]⟩

theorem numsL_one {r : List UInt8} {n : Nat} (h : numsL r = some [n]) : r = be8 n ∧ n < 9223372036854775808 := by
  have hl := numsL_len r.length r [n] (Nat.le_refl _) h
  simp at hl
  rw [numsL_step _ (by omega), List.take_of_length_le (by omega), List.drop_of_length_le (by omega)] at h
  split at h
  · next hb =>
    simp [numsL] at h
    subst h
    refine ⟨?_, hb⟩
    have h2 := numsL_numB (be r) hb
    rw [numB_list, numsL_step _ (by rw [be8_len]; omega), List.take_of_length_le (by rw [be8_len]; omega), List.drop_of_length_le (by rw [be8_len]; omega)] at h2
    split at h2
    · simp [numsL] at h2
      exact (be_inj' r (be8 (be r)) 0 0 (by rw [be8_len]; omega) h2.symm).2
    · cases h2
  · cases h

theorem intOfV_lt (v : ByteArray) : intOfV v < 9223372036854775808 := by
  unfold intOfV rowOf
  cases h : numsL v.data.toList with
  | none => simp
  | some ns =>
    match ns, h with
    | [], _ => simp
    | [n], h => exact (numsL_one h).2
    | _ :: _ :: _, _ => simp
theorem rOf_lt (s : St) (a : Int) : (rOf s a : Int) < 9223372036854775808 := by
  have := intOfV_lt (s.val (K9 a))
  show ((intOfV (s.val (K9 a)) : Nat) : Int) < _
  omega

theorem keyL_nat (t : Nat) (n : Nat) : (keyL t [(n : Int)]).data.toList = UInt8.ofNat t :: be8 n := by
  rw [keyL_pos (by intro x hx; rw [List.mem_singleton.1 hx]; omega)]
  simp [keyBytes]
theorem keyL_negI (t : Nat) {a : Int} (h : a < 0) : keyL t [a] = emptyB := keyL_neg (n := a) (List.mem_singleton.2 rfl) h

theorem parse_key (t : Nat) (h1 : 1 ≤ t) (h2 : t ≤ 255) (n : Nat) (hn : n < 9223372036854775808) : parseK (keyL t [(n : Int)]) = some (t, [n]) := by
  unfold parseK
  rw [keyL_nat]
  have h0 : UInt8.ofNat t ≠ 0 := fun e => by
    have := congrArg UInt8.toNat e
    rw [UInt8.toNat_ofNat'] at this
    have h3 : (0 : UInt8).toNat = 0 := rfl
    rw [h3] at this
    omega
  show (if UInt8.ofNat t = 0 then none else (numsL (be8 n)).map fun ns => ((UInt8.ofNat t).toNat, ns)) = _
  rw [if_neg h0]
  have := numsL_numB n hn
  rw [numB_list] at this
  rw [this, UInt8.toNat_ofNat', Option.map_some]
  have : t % 256 = t := by omega
  rw [this]

theorem key_inj {t u : Nat} (ht1 : 1 ≤ t) (ht : t ≤ 255) (hu1 : 1 ≤ u) (hu : u ≤ 255) {n m : Nat} (hn : n < 9223372036854775808) (hm : m < 9223372036854775808) (h : keyL t [(n : Int)] = keyL u [(m : Int)]) : t = u ∧ n = m := by
  have h1 := parse_key t ht1 ht n hn
  rw [h, parse_key u hu1 hu m hm] at h1
  injection h1 with h1
  injection h1 with h1 h2
  injection h2 with h2
  exact ⟨h1.symm, h2.symm⟩

theorem key_of_num {k : ByteArray} {t : Nat} {n : Nat} (hp : isPre (keyL t []) k = true) (hn : numOf k = some n) : k = keyL t [(n : Int)] ∧ n < 9223372036854775808 := by
  unfold numOf at hn
  have hk : (keyL t []).data.toList = [UInt8.ofNat t] := by
    rw [keyL_pos (by intro x hx; cases hx)]; simp [keyBytes]
  rw [isPre_iff, hk] at hp
  obtain ⟨r, hr⟩ := hp
  have hpk : parseK k = parseL (UInt8.ofNat t :: r) := by unfold parseK; rw [← hr]; rfl
  rw [hpk] at hn
  unfold parseL at hn
  split at hn
  · next ft m he =>
    have he' : (if UInt8.ofNat t = 0 then none else (numsL r).map fun ns => ((UInt8.ofNat t).toNat, ns)) = some (ft, [m]) := he
    injection hn with hn
    subst hn
    split at he'
    · cases he'
    · rw [Option.map_eq_some_iff] at he'
      obtain ⟨ns', hns, e⟩ := he'
      injection e with _ e
      subst e
      obtain ⟨hr8, hlt⟩ := numsL_one hns
      refine ⟨?_, hlt⟩
      have : k.data.toList = (keyL t [(m : Int)]).data.toList := by rw [keyL_nat, ← hr, hr8]; rfl
      exact congrArg ByteArray.mk (Array.toList_inj.1 this)
  · cases hn

theorem pre_key (t : Nat) (n : Nat) : isPre (keyL t []) (keyL t [(n : Int)]) = true := by
  have hk : (keyL t []).data.toList = [UInt8.ofNat t] := by
    rw [keyL_pos (by intro x hx; cases hx)]; simp [keyBytes]
  rw [isPre_iff, hk, keyL_nat]
  exact ⟨_, rfl⟩

theorem num_key (t : Nat) (h1 : 1 ≤ t) (h2 : t ≤ 255) (n : Nat) (hn : n < 9223372036854775808) : numOf (keyL t [(n : Int)]) = some n := by
  unfold numOf; rw [parse_key t h1 h2 n hn]

/-- What a table hands on. -/
theorem each_mem {t : Nat} {s : St} {p : Int × Int} (h : p ∈ eachE t s) : ∃ n : Nat, n < 9223372036854775808 ∧ p = ((n : Int), (s.int (keyL t [(n : Int)]) : Int)) ∧ ∃ x ∈ s.ents, x.1 = keyL t [(n : Int)] := by
  unfold eachE at h
  obtain ⟨x, hx, he⟩ := List.mem_filterMap.1 h
  unfold underE at hx
  obtain ⟨hx, hp⟩ := List.mem_filter.1 hx
  rw [eachOf_num, Option.map_eq_some_iff] at he
  obtain ⟨n, hn, rfl⟩ := he
  obtain ⟨hk, hlt⟩ := key_of_num hp hn
  exact ⟨n, hlt, by rw [hk], x, hx, hk⟩

theorem mem_each {t : Nat} (h1 : 1 ≤ t) (h2 : t ≤ 255) {s : St} {n : Nat} (hn : n < 9223372036854775808) {x : Ent} (hx : x ∈ s.ents) (hk : x.1 = keyL t [(n : Int)]) : ((n : Int), (s.int (keyL t [(n : Int)]) : Int)) ∈ eachE t s := by
  unfold eachE
  refine List.mem_filterMap.2 ⟨x, ?_, ?_⟩
  · unfold underE
    exact List.mem_filter.2 ⟨hx, by rw [hk]; exact pre_key t n⟩
  · rw [eachOf_num, hk, num_key t h1 h2 n hn]; rfl

theorem withE_mem {o n : Int} {l : List (Int × Int)} : n ∈ withE o l ↔ (n, o) ∈ l ∧ 0 < o := by
  unfold withE
  simp only [List.mem_map, List.mem_filter, Bool.and_eq_true, beq_iff_eq, decide_eq_true_eq]
  constructor
  · rintro ⟨⟨a, b⟩, ⟨h1, h2, h3⟩, rfl⟩
    simp only at h2
    subst h2
    exact ⟨h1, h3⟩
  · rintro ⟨h1, h2⟩
    exact ⟨(n, o), ⟨h1, rfl, h2⟩, rfl⟩

theorem int_ent {s : St} {k : ByteArray} (h : s.int k ≠ 0) : ∃ x ∈ s.ents, x.1 = k := by
  cases hg : getE s.ents k with
  | some v => exact ⟨(k, v), getE_mem hg, rfl⟩
  | none =>
    exfalso; apply h
    unfold St.int St.val
    rw [hg]; rfl

/-- What each state of the roster has. -/
structure RInv (s : St) : Prop where
  srt : Sorted s.ents
  ne : ∀ x ∈ s.ents, x.1 ≠ emptyB
  ops : ∀ a : Nat, a < 9223372036854775808 → (∃ x ∈ s.ents, x.1 = K8 a) → s.int (K8 a) = 1 ∧ s.int (K9 a) = a ∧ 1 ≤ a
  ch : ∀ a : Nat, a < 9223372036854775808 → s.int (K9 a) ≠ 0 → s.int (K8 (s.int (K9 a) : Nat)) = 1

theorem RInv.empty : RInv emptySt := ⟨List.Pairwise.nil, fun x hx => (by cases hx), fun a _ ⟨x, hx, _⟩ => (by cases hx), fun a _ h => absurd rfl h⟩

theorem ne_key (t : Nat) (n : Nat) : keyL t [(n : Int)] ≠ emptyB := fun e => by
  have := congrArg (fun b : ByteArray => b.data.toList) e
  rw [keyL_nat] at this
  cases this

theorem ent_setInt {s : St} {k j : ByteArray} {n : Int} (h : ∃ x ∈ (s.setInt k n).ents, x.1 = j) : k = j ∨ ∃ x ∈ s.ents, x.1 = j := by
  obtain ⟨x, hx, rfl⟩ := h
  have : KeysP (fun q => k = q ∨ ∃ x ∈ s.ents, x.1 = q) s := fun x hx => .inr ⟨x, hx, rfl⟩
  exact this.setInt (.inl rfl) n x hx
theorem ent_del {s : St} {k j : ByteArray} (h : ∃ x ∈ (s.del k).ents, x.1 = j) : ∃ x ∈ s.ents, x.1 = j := by
  obtain ⟨x, hx, rfl⟩ := h
  have : KeysP (fun q => ∃ x ∈ s.ents, x.1 = q) s := fun x hx => ⟨x, hx, rfl⟩
  exact this.del k x hx
theorem srt_setInt {s : St} (h : Sorted s.ents) (k : ByteArray) (n : Int) : Sorted (s.setInt k n).ents := by
  unfold St.setInt St.put
  by_cases h1 : (if n < 1 then emptyB else numB n.toNat) = emptyB
  · rw [if_pos h1]; exact St.del_sorted h k
  · rw [if_neg h1]
    by_cases h2 : k = emptyB
    · rw [if_pos h2]; exact h
    · rw [if_neg h2]; exact St.set_sorted h k _
theorem int_del {s : St} (hs : Sorted s.ents) (k j : ByteArray) : (s.del k).int j = if k = j then 0 else s.int j := by
  unfold St.del
  by_cases hg : (getE s.ents k).isSome = true
  · rw [if_pos hg]
    unfold St.int St.val
    simp only [getE_delE _ hs]
    by_cases e : k = j
    · simp [e, intOfV_empty]
    · simp [e]
  · rw [if_neg hg]
    by_cases e : k = j
    · subst e
      rw [if_pos rfl]
      have : getE s.ents k = none := by simpa using hg
      unfold St.int St.val
      rw [this]; rfl
    · rw [if_neg e]

theorem K88 {a b : Nat} (ha : a < 9223372036854775808) (hb : b < 9223372036854775808) (h : K8 a = K8 b) : a = b := (key_inj (by decide) (by decide) (by decide) (by decide) ha hb h).2
theorem K99 {a b : Nat} (ha : a < 9223372036854775808) (hb : b < 9223372036854775808) (h : K9 a = K9 b) : a = b := (key_inj (by decide) (by decide) (by decide) (by decide) ha hb h).2
theorem K89 {a b : Nat} (ha : a < 9223372036854775808) (hb : b < 9223372036854775808) : K8 a ≠ K9 b := fun h => by
  have := (key_inj (by decide) (by decide) (by decide) (by decide) ha hb h).1; cases this

section
variable {s : St} {n b : Nat}
theorem set8_8 (h : Sorted s.ents) (hn : n < 9223372036854775808) (hb : b < 9223372036854775808) (v : Int) (hv : v < 9223372036854775808) : (s.setInt (K8 n) v).int (K8 b) = if n = b then v.toNat else s.int (K8 b) := by
  have := int_setInt s h (K8 n) (K8 b) (ne_key 8 n) v hv
  rw [this]
  by_cases e : n = b
  · subst e; rw [if_pos rfl, if_pos rfl]
  · rw [if_neg e, if_neg fun h => e (K88 hn hb h)]
theorem set8_9 (h : Sorted s.ents) (hn : n < 9223372036854775808) (hb : b < 9223372036854775808) (v : Int) (hv : v < 9223372036854775808) : (s.setInt (K8 n) v).int (K9 b) = s.int (K9 b) := by
  rw [int_setInt s h (K8 n) (K9 b) (ne_key 8 n) v hv, if_neg (K89 hn hb)]
theorem set9_9 (h : Sorted s.ents) (hn : n < 9223372036854775808) (hb : b < 9223372036854775808) (v : Int) (hv : v < 9223372036854775808) : (s.setInt (K9 n) v).int (K9 b) = if n = b then v.toNat else s.int (K9 b) := by
  have := int_setInt s h (K9 n) (K9 b) (ne_key 9 n) v hv
  rw [this]
  by_cases e : n = b
  · subst e; rw [if_pos rfl, if_pos rfl]
  · rw [if_neg e, if_neg fun h => e (K99 hn hb h)]
theorem set9_8 (h : Sorted s.ents) (hn : n < 9223372036854775808) (hb : b < 9223372036854775808) (v : Int) (hv : v < 9223372036854775808) : (s.setInt (K9 n) v).int (K8 b) = s.int (K8 b) := by
  rw [int_setInt s h (K9 n) (K8 b) (ne_key 9 n) v hv, if_neg fun h => K89 hb hn h.symm]
theorem del9_9 (h : Sorted s.ents) (hn : n < 9223372036854775808) (hb : b < 9223372036854775808) : (s.del (K9 n)).int (K9 b) = if n = b then 0 else s.int (K9 b) := by
  rw [int_del h]
  by_cases e : n = b
  · subst e; rw [if_pos rfl, if_pos rfl]
  · rw [if_neg e, if_neg fun h => e (K99 hn hb h)]
theorem del9_8 (h : Sorted s.ents) (hn : n < 9223372036854775808) (hb : b < 9223372036854775808) : (s.del (K9 n)).int (K8 b) = s.int (K8 b) := by
  rw [int_del h, if_neg fun h => K89 hb hn h.symm]
end

theorem RInv.register {s : St} (h : RInv s) (a : Int) : RInv (rRegister s a).2 := by
  unfold rRegister
  split
  · exact h
  split
  · exact h
  split
  · exact h
  next h1 h2 h3 =>
  have hb : isB a = true := by simpa using h1
  have hB : 1 ≤ a ∧ a ≤ 4294967295 := by unfold isB at hb; simpa using hb
  obtain ⟨n, rfl⟩ : ∃ n : Nat, a = n := ⟨a.toNat, by omega⟩
  have hn : n < 9223372036854775808 := by omega
  have hs1 := srt_setInt h.srt (K8 n) 1
  have i8 : ∀ b : Nat, b < 9223372036854775808 → ((s.setInt (K8 n) 1).setInt (K9 n) n).int (K8 b) = if n = b then 1 else s.int (K8 b) := fun b hb => by
    rw [set9_8 hs1 hn hb _ (by omega), set8_8 h.srt hn hb _ (by decide)]; simp only [Int.toNat_one]
  have i9 : ∀ b : Nat, b < 9223372036854775808 → ((s.setInt (K8 n) 1).setInt (K9 n) n).int (K9 b) = if n = b then n else s.int (K9 b) := fun b hb => by
    rw [set9_9 hs1 hn hb _ (by omega), set8_9 h.srt hn hb _ (by decide)]; simp only [Int.toNat_natCast]
  refine ⟨srt_setInt hs1 _ _, fun x hx e => ?_, fun b hbl hx => ?_, fun b hbl hx => ?_⟩
  · rcases ent_setInt (j := x.1) ⟨x, hx, rfl⟩ with h4 | h4
    · exact ne_key 9 n (h4.trans e)
    · rcases ent_setInt h4 with h5 | ⟨y, hy, hy2⟩
      · exact ne_key 8 n (h5.trans e)
      · exact h.ne y hy (hy2.trans e)
  · rw [i8 b hbl, i9 b hbl]
    by_cases e : n = b
    · subst e; rw [if_pos rfl, if_pos rfl]; exact ⟨rfl, rfl, by omega⟩
    · rw [if_neg e, if_neg e]
      refine h.ops b hbl ?_
      rcases ent_setInt hx with h4 | h4
      · exact (K89 hbl hn h4.symm).elim
      · rcases ent_setInt h4 with h5 | h5
        · exact (e (K88 hn hbl h5)).elim
        · exact h5
  · rw [i9 b hbl] at hx ⊢
    by_cases e : n = b
    · rw [if_pos e, i8 n hn, if_pos rfl]
    · rw [if_neg e] at hx ⊢
      rw [i8 (s.int (K9 b)) (intOfV_lt _)]
      by_cases e2 : n = s.int (K9 b)
      · rw [if_pos e2]
      · rw [if_neg e2]; exact h.ch b hbl hx

theorem RInv.int_neg {s : St} (h : RInv s) : s.int emptyB = 0 := by
  by_cases h0 : s.int emptyB = 0
  · exact h0
  · obtain ⟨x, hx, e⟩ := int_ent h0
    exact (h.ne x hx e).elim

theorem RInv.choose {s : St} (h : RInv s) (a o : Int) (hol : o < 9223372036854775808) : RInv (rChoose s a o).2 := by
  unfold rChoose
  split
  · exact h
  split
  · exact h
  split
  · exact h
  next h1 h2 h3 =>
  have hb : isB a = true := by simpa using h1
  have hB : 1 ≤ a ∧ a ≤ 4294967295 := by unfold isB at hb; simpa using hb
  obtain ⟨n, rfl⟩ : ∃ n : Nat, a = n := ⟨a.toNat, by omega⟩
  have hn : n < 9223372036854775808 := by omega
  have ho : s.int (K8 o) = 1 := by
    have : rIs s o = true := by simpa using h2
    unfold rIs at this; simpa using this
  have ho0 : 0 ≤ o := by
    by_cases h0 : 0 ≤ o
    · exact h0
    · rw [show K8 o = emptyB from keyL_negI 8 (by omega), h.int_neg] at ho; cases ho
  obtain ⟨q, rfl⟩ : ∃ q : Nat, o = q := ⟨o.toNat, by omega⟩
  have hq : q < 9223372036854775808 := by omega
  have hno : s.int (K9 n) = 0 := by simpa [rOf] using h3
  have i8 : ∀ b : Nat, b < 9223372036854775808 → (s.setInt (K9 n) q).int (K8 b) = s.int (K8 b) := fun b hb => set9_8 h.srt hn hb _ (by omega)
  have i9 : ∀ b : Nat, b < 9223372036854775808 → (s.setInt (K9 n) q).int (K9 b) = if n = b then q else s.int (K9 b) := fun b hb => by
    rw [set9_9 h.srt hn hb _ (by omega)]; simp only [Int.toNat_natCast]
  refine ⟨srt_setInt h.srt _ _, fun x hx e => ?_, fun b hbl hx => ?_, fun b hbl hx => ?_⟩
  · rcases ent_setInt (j := x.1) ⟨x, hx, rfl⟩ with h4 | ⟨y, hy, hy2⟩
    · exact ne_key 9 n (h4.trans e)
    · exact h.ne y hy (hy2.trans e)
  · rw [i8 b hbl, i9 b hbl]
    have h5 : ∃ x ∈ s.ents, x.1 = K8 b := by
      rcases ent_setInt hx with h4 | h4
      · exact (K89 hbl hn h4.symm).elim
      · exact h4
    have h6 := h.ops b hbl h5
    by_cases e : n = b
    · subst e; omega
    · rw [if_neg e]; exact h6
  · rw [i9 b hbl] at hx ⊢
    by_cases e : n = b
    · rw [if_pos e, i8 q hq]; exact ho
    · rw [if_neg e] at hx ⊢
      rw [i8 (s.int (K9 b)) (intOfV_lt _)]; exact h.ch b hbl hx

theorem RInv.leave {s : St} (h : RInv s) (a : Int) (ha : a < 9223372036854775808) : RInv (rLeave s a).2 := by
  unfold rLeave
  split
  · exact h
  split
  · exact h
  next h1 h2 =>
  have h1' : s.int (K9 a) ≠ 0 := h1
  have ha0 : 0 ≤ a := by
    by_cases h0 : 0 ≤ a
    · exact h0
    · rw [show K9 a = emptyB from keyL_negI 9 (by omega), h.int_neg] at h1'; exact (h1' rfl).elim
  obtain ⟨n, rfl⟩ : ∃ n : Nat, a = n := ⟨a.toNat, by omega⟩
  have hn : n < 9223372036854775808 := by omega
  have h8 : s.int (K8 n) ≠ 1 := fun e => h2 (by unfold rIs; rw [e]; rfl)
  refine ⟨St.del_sorted h.srt _, fun x hx e => ?_, fun b hbl hx => ?_, fun b hbl hx => ?_⟩
  · obtain ⟨y, hy, hy2⟩ := ent_del (j := x.1) ⟨x, hx, rfl⟩
    exact h.ne y hy (hy2.trans e)
  · have h6 := h.ops b hbl (ent_del hx)
    show (s.del (K9 n)).int _ = _ ∧ (s.del (K9 n)).int _ = _ ∧ _
    rw [del9_8 h.srt hn hbl, del9_9 h.srt hn hbl]
    by_cases e : n = b
    · subst e; exact (h8 h6.1).elim
    · rw [if_neg e]; exact h6
  · have hx' : (s.del (K9 n)).int (K9 b) ≠ 0 := hx
    show (s.del (K9 n)).int (K8 ((s.del (K9 n)).int (K9 b) : Nat)) = 1
    rw [del9_9 h.srt hn hbl] at hx' ⊢
    by_cases e : n = b
    · rw [if_pos e] at hx'; exact (hx' rfl).elim
    · rw [if_neg e] at hx' ⊢
      rw [del9_8 (b := s.int (K9 b)) h.srt hn (intOfV_lt _)]; exact h.ch b hbl hx'

theorem RInv.act {s : St} (h : RInv s) (k y z : Int) (hy : y < 9223372036854775808) (hz : z < 9223372036854775808) : RInv (rAct s k y z) := by
  unfold rAct
  split
  · exact h.register y
  · split
    · exact h.choose y z hz
    · exact h.leave y hy

theorem RInv.op {s : St} (h : RInv s) {o : Int} (ho : o ∈ (eachE 8 s).map (·.1)) : o < 9223372036854775808 ∧ (rOf s o : Int) = o ∧ rIs s o = true := by
  obtain ⟨p, hp, rfl⟩ := List.mem_map.1 ho
  obtain ⟨n, hn, rfl, hx⟩ := each_mem hp
  obtain ⟨h1, h2, _⟩ := h.ops n hn hx
  refine ⟨by show (n : Int) < _; omega, ?_, ?_⟩
  · show ((s.int (K9 n) : Nat) : Int) = n
    rw [h2]
  · show (s.int (K8 n) == 1) = true
    rw [h1]; rfl

theorem staker_of {s : St} {w o : Int} (hw : w ∈ withE o (eachE 9 s)) : w < 9223372036854775808 ∧ (rOf s w : Int) = o := by
  obtain ⟨h1, _⟩ := withE_mem.1 hw
  obtain ⟨n, hn, e, _⟩ := each_mem h1
  injection e with e1 e2
  subst e1
  exact ⟨by omega, e2.symm⟩

theorem RInv.me {s : St} (h : RInv s) {y : Int} (hy : y < 9223372036854775808) (h0 : rOf s y ≠ 0) : rIs s (rOf s y) = true ∧ y ∈ withE (rOf s y) (eachE 9 s) := by
  have h1 : s.int (K9 y) ≠ 0 := h0
  have hy0 : 0 ≤ y := by
    by_cases h2 : 0 ≤ y
    · exact h2
    · rw [show K9 y = emptyB from keyL_negI 9 (by omega), h.int_neg] at h1; exact (h1 rfl).elim
  obtain ⟨n, rfl⟩ : ∃ n : Nat, y = n := ⟨y.toNat, by omega⟩
  have hn : n < 9223372036854775808 := by omega
  refine ⟨?_, withE_mem.2 ⟨?_, by omega⟩⟩
  · show (s.int (K8 (s.int (K9 n) : Nat)) == 1) = true
    rw [h.ch n hn h1]; rfl
  · obtain ⟨x, hx, hk⟩ := int_ent h1
    exact mem_each (by decide) (by decide) hn hx hk
end Go.Proofs.Ytbljaikifgpflaa
