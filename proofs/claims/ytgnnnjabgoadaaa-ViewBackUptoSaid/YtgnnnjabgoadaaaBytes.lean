/- What is proved here: plain facts on entries written as bytes, and read back. No program is named. Their condition: sizes within 2^30. bytes behind a captured slice: append of a string; view.Bytes' closure. Its condition: fewer than 10^11 bytes. view.Bytes: any store's bytes. Its condition: fewer than 10^10 bytes. -/
import Derived.Test.YtgnnnjabgoadaaaLoads
import Derived.Lib.AppendStr
namespace Go.Proofs.Ytgnnnjabgoadaaa

def textB (s : List UInt8) : List UInt8 := putVar s.length ++ s
def flatE : List Ent → List UInt8
  | [] => []
  | x :: l => textB x.1.data.toList ++ (textB x.2.data.toList ++ flatE l)
def bytesE (l : List Ent) : List UInt8 := putVar l.length ++ flatE l

theorem u8_small {n : Nat} (h : n < 256) : (UInt8.ofNat n).toNat = n := by rw [UInt8.toNat_ofNat']; omega

theorem groupL_put : ∀ (j n i : Nat) (r : List UInt8), n < 128 ^ j → i + (putVar n).length ≤ 9 → (0 < n ∨ i = 0) → groupL i (putVar n ++ r) = .ok (i + (putVar n).length)
  | 0, n, i, r, hn, hl, h0 => by
    have : n = 0 := by simp at hn; exact hn
    subst this
    rw [putVar_small (by omega)] at hl ⊢
    simp at hl
    rw [List.singleton_append, groupL, if_neg (by omega), if_neg (by decide), if_neg (by rintro ⟨_, h⟩; omega)]
    rfl
  | j + 1, n, i, r, hn, hl, h0 => by
    by_cases h : n < 128
    · rw [putVar_small h] at hl ⊢
      simp at hl
      rw [List.singleton_append, groupL, if_neg (by omega), if_neg (by rw [u8_small (by omega)]; omega), if_neg (by rw [u8_small (by omega)]; omega)]
      rfl
    · rw [putVar_big h] at hl ⊢
      simp only [List.length_cons] at hl ⊢
      rw [List.cons_append, groupL, if_neg (by omega), if_pos (by rw [u8_small (by omega)]; omega)]
      have h1 : n / 128 < 128 ^ j := by
        rw [Nat.pow_succ] at hn
        exact (Nat.div_lt_iff_lt_mul (by omega)).2 hn
      rw [groupL_put j (n / 128) (i + 1) r h1 (by omega) (.inl (by omega))]
      congr 1; omega

theorem valL_put : ∀ (j n : Nat), n < 128 ^ j → valL (putVar n) = n
  | 0, n, hn => by
    have : n = 0 := by simp at hn; exact hn
    subst this
    rw [putVar_small (by omega)]; rfl
  | j + 1, n, hn => by
    by_cases h : n < 128
    · rw [putVar_small h, valL, valL, u8_small (by omega)]; omega
    · rw [putVar_big h, valL, u8_small (by omega)]
      have h1 : n / 128 < 128 ^ j := by
        rw [Nat.pow_succ] at hn
        exact (Nat.div_lt_iff_lt_mul (by omega)).2 hn
      rw [valL_put j _ h1]
      omega

theorem varL_put {n most : Nat} (r : List UInt8) (hn : n < 9223372036854775808) (hm : n ≤ most) : varL (putVar n ++ r) most = .ok (n, r) := by
  have e9 : (128 : Nat) ^ 9 = 9223372036854775808 := by decide
  have h1 := putVar_len 9 n (by omega) (by omega)
  unfold varL
  rw [groupL_put 9 n 0 r (by omega) (by omega) (.inr rfl)]
  simp only [Nat.zero_add, List.take_left', List.drop_left']
  rw [valL_put 9 n (by omega), if_neg (by omega)]

theorem textL_put {s : List UInt8} {most : Nat} (r : List UInt8) (hs : s.length < 9223372036854775808) (hm : s.length ≤ most) : textL (textB s ++ r) most = .ok (s, r) := by
  unfold textL textB
  rw [List.append_assoc, varL_put (s ++ r) hs hm]
  simp only
  rw [if_neg (by rw [List.length_append]; omega)]
  simp

theorem ba_back (k : ByteArray) : (⟨k.data.toList.toArray⟩ : ByteArray) = k := ba_ext rfl

theorem loadN_put : ∀ (l acc : List Ent) (last : ByteArray), Sorted l → (∀ x ∈ l, KLt last x.1) → (∀ x ∈ l, x.1.size ≤ 1073741824 ∧ x.2.size ≤ 1073741824) → loadN l.length (flatE l) last acc = .ok (acc ++ l)
  | [], acc, last, _, _, _ => by simp [loadN, flatE]
  | (k, v) :: l, acc, last, hs, hl, hz => by
    have h1 : k.size ≤ 1073741824 ∧ v.size ≤ 1073741824 := hz (k, v) (by simp)
    have hk : k.data.toList.length = k.size := rfl
    have hv : v.data.toList.length = v.size := rfl
    have hlt := hl (k, v) (by simp)
    rw [List.length_cons, loadN, flatE, textL_put _ (by rw [hk]; omega) (by rw [hk]; omega)]
    simp only
    rw [ba_back, if_neg (by simpa using hlt), textL_put _ (by rw [hv]; omega) (by rw [hv]; omega)]
    simp only
    rw [ba_back]
    rw [loadN_put l _ k (List.Pairwise.of_cons hs) (fun x hx => List.rel_of_pairwise_cons hs hx) (fun x hx => hz x (by simp [hx]))]
    simp

theorem loadE_put {l : List Ent} (hs : Sorted l) (hk : ∀ x ∈ l, x.1 ≠ emptyB) (hz : ∀ x ∈ l, x.1.size ≤ 1073741824 ∧ x.2.size ≤ 1073741824) (hl : l.length ≤ 1073741824) : loadE (bytesE l) = .ok l := by
  unfold loadE bytesE
  rw [varL_put _ (by omega) hl]
  simp only
  rw [loadN_put l [] ⟨#[]⟩ hs (fun x hx => lt_nil (hk x hx)) hz]
  rfl

/-- What is read as a number was written so. -/
theorem groupL_back : ∀ {l : List UInt8} {i k : Nat}, groupL i l = .ok k → i < k ∧ (0 < i → 0 < valL (l.take (k - i))) ∧ putVar (valL (l.take (k - i))) = l.take (k - i)
  | [], _, _, h => by simp [groupL] at h
  | c :: r, i, k, h => by
    rw [groupL] at h
    have hc := c.toNat_lt
    split at h
    · cases h
    · split at h
      · rename_i h128
        obtain ⟨h1, h2, h3⟩ := groupL_back h
        have e : k - i = (k - (i + 1)) + 1 := by omega
        rw [e, List.take_succ_cons, valL]
        have h4 := h2 (by omega)
        refine ⟨by omega, fun _ => by omega, ?_⟩
        rw [putVar_big (by omega)]
        have e1 : (c.toNat % 128 + 128 * valL (r.take (k - (i + 1)))) / 128 = valL (r.take (k - (i + 1))) := by omega
        have e2 : (c.toNat % 128 + 128 * valL (r.take (k - (i + 1)))) % 128 + 128 = c.toNat := by omega
        rw [e1, e2, h3, UInt8.ofNat_toNat]
      · split at h
        · cases h
        · rename_i h128 hz
          cases h
          have e : i + 1 - i = 1 := by omega
          rw [e, List.take_succ_cons, List.take_zero, valL, valL]
          refine ⟨by omega, fun h0 => by omega, ?_⟩
          have e1 : c.toNat % 128 + 128 * 0 = c.toNat := by omega
          rw [e1, putVar_small (by omega), UInt8.ofNat_toNat]

theorem varL_back {l r : List UInt8} {most n : Nat} (h : varL l most = .ok (n, r)) : putVar n ++ r = l := by
  unfold varL at h
  split at h
  · cases h
  · rename_i k hk
    split at h
    · cases h
    · cases h
      have := (groupL_back hk).2.2
      rw [Nat.sub_zero] at this
      rw [this, List.take_append_drop]

theorem textL_back {l x r : List UInt8} {most : Nat} (h : textL l most = .ok (x, r)) : textB x ++ r = l := by
  unfold textL at h
  split at h
  · cases h
  · rename_i n r' hv
    split at h
    · cases h
    · rename_i hn
      cases h
      have e := varL_back hv
      unfold textB
      rw [List.length_take, Nat.min_eq_left (by omega), List.append_assoc, List.take_append_drop, e]

theorem loadN_back : ∀ {n : Nat} {l : List UInt8} {last : ByteArray} {acc r : List Ent}, loadN n l last acc = .ok r → ∃ r', r = acc ++ r' ∧ r'.length = n ∧ flatE r' = l
  | 0, l, _, acc, r, h => by
    rw [loadN] at h
    split at h
    · rename_i hl
      cases h
      exact ⟨[], by simp, rfl, by rw [hl]; rfl⟩
    · cases h
  | n + 1, l, last, acc, r, h => by
    rw [loadN] at h
    split at h
    · cases h
    · rename_i k r1 hk
      split at h
      · cases h
      · split at h
        · cases h
        · rename_i v r2 hv
          obtain ⟨r', e1, e2, e3⟩ := loadN_back h
          refine ⟨(⟨k.toArray⟩, ⟨v.toArray⟩) :: r', by rw [e1]; simp, by simp [e2], ?_⟩
          have hkb := textL_back hk
          have hvb := textL_back hv
          show textB k ++ (textB v ++ flatE r') = l
          rw [e3, hvb, hkb]

theorem loadE_back {l : List UInt8} {r : List Ent} (h : loadE l = .ok r) : bytesE r = l := by
  unfold loadE at h
  split at h
  · cases h
  · rename_i n r1 hv
    obtain ⟨r', e1, e2, e3⟩ := loadN_back h
    rw [List.nil_append] at e1
    subst e1
    unfold bytesE
    rw [e2, e3]
    exact varL_back hv

theorem flatE_append (l r : List Ent) : flatE (l ++ r) = flatE l ++ flatE r := by
  induction l with
  | nil => rfl
  | cons x l ih => simp [flatE, ih, List.append_assoc]
end Go.Proofs.Ytgnnnjabgoadaaa

namespace Go.Proofs.Ytgnnnjabgoadaaa
open Go.RowKit

section
variable {P : Program} {w : World}
/-- append of a string onto bytes of one's own. -/
theorem run_append_Str {t u e : TypeId} (T : SliceT P t e (.int .u8 0) 1 1) (hu : P.underlying u = some .string) (ty : TypeId)
    {v : Value} {n : Nat} {xs : List Value} (hown : Own w e 1 v n xs) (s : ByteArray) (h63 : n + s.size ≤ maxLen) (hbytes : n + s.size ≤ 140737488355328) :
    ∃ v' w', (Builtin.append_ #[t, u] ty #[v, .string s]).run P w = .ok v' w' ∧ Appended w e 1 v n s.size xs (Lib.strCells s) v' w' := by
  obtain ⟨i, hi, hz, hsize, hby⟩ := info_parts T.info
  have ht := T.und
  have hsmall : n + s.size ≤ 9223372036854775807 := by simp only [maxLen] at h63; omega
  have hxl : xs.length = n := by simpa using hown.1
  have hlen : (xs ++ Lib.strCells s).length = (n + s.size) * 1 := by rw [List.length_append, hxl, Lib.strCells_length, Nat.mul_one]
  have grown : ∀ (old : Nat), old < n + s.size → ∀ (row : Option Nat),
      Own (w.drew.alloc (.cells (xs.toArray ++ (Lib.strCells s).toArray ++ Builtin.zeroCells (Value.int .u8 0).cells (grownCap w (n + s.size) old e - (n + s.size))) e)) e 1
        (.slice (some ⟨w.heap.size, 0, none⟩) (n + s.size) (grownCap w (n + s.size) old e)) (n + s.size) (xs ++ Lib.strCells s) ∧
      w.grownBy (w.drew.alloc (.cells (xs.toArray ++ (Lib.strCells s).toArray ++ Builtin.zeroCells (Value.int .u8 0).cells (grownCap w (n + s.size) old e - (n + s.size))) e)) row := by
    intro old ho row
    have hge := grownCap_ge w (n + s.size) old e
    have hcm : grownCap w (n + s.size) old e ≤ maxLen := grownCap_le_maxLen w (n + s.size) old e h63
    refine ⟨⟨hlen, .inr ⟨w.heap.size, _, _, rfl, heap_alloc_new w.drew _, hge, hcm, ?_, ?_⟩⟩, ⟨rfl, rfl, rfl, by simp, fun k hk _ => heap_alloc_old w.drew _ hk⟩⟩
    · have hz1 : (Value.int IntKind.u8 0).cells.size = 1 := rfl
      simp only [Array.size_append, List.size_toArray, size_zeroCells, hz1, hxl, Lib.strCells_length]
      omega
    · simp only [Array.toList_append, List.append_assoc]
      rw [← List.append_assoc, ← hlen]
      exact List.take_left
  rcases hown.2 with ⟨rfl, rfl⟩ | ⟨g, cap, cur, rfl, hg, hnc, hcm, hcs, htake⟩
  · have hx : xs = [] := List.eq_nil_of_length_eq_zero hxl
    subst hx
    by_cases hm : s.size = 0
    · have hn : Lib.strCells s = [] := List.eq_nil_of_length_eq_zero (by rw [Lib.strCells_length]; exact hm)
      refine ⟨.slice none 0 0, w, ?_, ⟨by rw [hm, hn]; exact Own.nil w e 1, ⟨rfl, rfl, rfl, Nat.le_refl _, fun _ _ _ => rfl⟩, by simp [hm], by simp [Value.ownBlock]⟩⟩
      have hf := Lib.run_firstCells_string (P := P) w 1 s
      rw [hm] at hf
      simp [Builtin.append_, run_underlying ht, run_underlying hu, sizeOf, typeInfo, hi, hsize, Builtin.lenOf, hm, hf]
    · have hr := run_append_nil_string (P := P) w t u ty e i (.int .u8 0) ht hu hi hz s (by omega) (by omega) (by rw [hby]; omega)
      have hgr := grown 0 (by omega) (Value.ownBlock (.slice none 0 0))
      simp only [Nat.zero_add, List.nil_append, Array.empty_append] at hgr ⊢
      have e1 : (s.data.map fun b => Value.int .u8 b.toNat) = (Lib.strCells s).toArray := by
        apply Array.ext'
        simp [Lib.strCells]
      rw [e1] at hr
      exact ⟨_, _, hr, by simpa using hgr.1, hgr.2, by simp [hm], by simp [Value.ownBlock]⟩
  · by_cases hroom : n + s.size ≤ cap
    · have hr := Lib.run_append_room_string (P := P) w t u ty e i ht hu hi hsize g n cap cur hg s hroom (by omega)
      refine ⟨_, _, hr, ⟨hlen, .inr ⟨g, cap, _, rfl, setRow_heap w g cur _ e _ hg, hroom, hcm, ?_, ?_⟩⟩, ⟨rfl, rfl, rfl, by simp, fun k _ hk => setRow_other w g k _ (fun e => hk (by simp [Value.ownBlock, e]))⟩, by simp, by simp [Value.ownBlock]⟩
      · simp only [List.size_toArray, List.length_append, List.length_take, List.length_drop, Array.length_toList, Lib.strCells_length]
        omega
      · have ht' : cur.toList.take n = xs := by simpa using htake
        rw [ht', ← hlen]
        exact List.take_left
    · have holds : ∀ j u, xs[j]? = some u → w.cell? ((⟨g, 0, none⟩ : Addr).add j) = some u := hown.cells (g := g) rfl
      have hr := Lib.run_append_grow_string (P := P) w t u ty e i (.int .u8 0) ht hu hi hz ⟨g, 0, none⟩ n cap xs (by rw [hsize]; simpa using hxl) holds s (by omega) (by omega) (by rw [hby]; exact growslice_fits (by omega) (by omega))
      have hgr := grown cap (by omega) (Value.ownBlock (.slice (some ⟨g, 0, none⟩) n cap))
      exact ⟨_, _, hr, hgr.1, hgr.2, by simp, by simp [Value.ownBlock]⟩
end

/-- Bytes of the call's own, in a slice that the block p holds. -/
def BAt (w : World) (p : Nat) (l : List UInt8) (wr : World) : Prop :=
  ∃ v, wr.heap[p]? = some (.cells #[v] 36 (0, 0)) ∧ Own wr 5 1 v l.length (bytesV l) ∧ (∀ k, v.ownBlock = some k → w.heap.size ≤ k) ∧ Below w.heap.size w wr ∧ w.heap.size ≤ p

theorem own_not {w : World} {p : Nat} {x v : Value} {n : Nat} {xs : List Value} (h : Own w 5 1 v n xs) (hp : w.heap[p]? = some (.cells #[x] 36 (0, 0))) : ∀ k, v.ownBlock = some k → k ≠ p := by
  intro k hk e
  subst e
  rcases h.2 with ⟨rfl, _⟩ | ⟨g, cap, cur, rfl, hg, _⟩
  · simp [Value.ownBlock] at hk
  · simp [Value.ownBlock] at hk
    subst hk
    rw [hp] at hg
    injection hg with h1
    injection h1 with _ h2 _
    exact absurd h2 (by decide)

theorem strCells_bytesV (s : ByteArray) : Lib.strCells s = bytesV s.data.toList := rfl

/-- One text more behind the captured slice: what the closure's walk wants. -/
theorem BAt.text {w wr : World} {p : Nat} {l : List UInt8} (h : BAt w p l wr) (s : ByteArray) (hs : s.size < 10000000000) (hl : l.length < 10000000000) :
    ∃ a0 n0 c0, wr.cell? ⟨p, 0, none⟩ = some (.slice a0 n0 c0) ∧ Calls Try.prog 45 #[.slice none 0 0, .int .i64 s.size] wr fun en w1 => ∃ a1 n1 c1, en = .returned (.slice a1 n1 c1) ∧ w1.cell? ⟨p, 0, none⟩ = some (.slice a0 n0 c0) ∧
      ∃ a3 n3 c3 w3, (∀ ty, (Builtin.append_ #[36, 36] ty #[.slice a0 n0 c0, .slice a1 n1 c1]).run Try.prog w1 = .ok (.slice a3 n3 c3) w3) ∧ w3.cell? ⟨p, 0, none⟩ = some (.slice a0 n0 c0) ∧
      ∃ a4 n4 c4 w4, (∀ ty, (Builtin.append_ #[36, 9] ty #[.slice a3 n3 c3, .string s]).run Try.prog w3 = .ok (.slice a4 n4 c4) w4) ∧ w4.cell? ⟨p, 0, none⟩ = some (.slice a0 n0 c0) ∧ w4.frozen? ⟨p, 0, none⟩ = false ∧
        BAt w p (l ++ textB s.data.toList) (w4.setCell ⟨p, 0, none⟩ (.slice a4 n4 c4)) := by
  obtain ⟨v, hp, ho, hf, hb, hwp⟩ := h
  have hpl := lt_of_at hp
  obtain ⟨_, a0, c0, rfl, _⟩ := ho.src
  have hsz := hb.size
  refine ⟨a0, l.length, c0, by rw [cell_of_row _ p _ _ _ _ hp]; rfl, (varw_any wr (.slice none 0 0) [] s.size ⟨rfl, none, 0, rfl, fun j u hj => by cases hj⟩ (by simp) (by omega)).mono fun en w1 ⟨v1, he, ho1, hf1, hb1⟩ => ?_⟩
  rw [List.nil_append] at ho1
  obtain ⟨_, a1, c1, rfl, _⟩ := ho1.src
  have hp1 : w1.heap[p]? = _ := (hb1.block p hpl).trans hp
  have hO1 : Own w1 5 1 (.slice a0 l.length c0) l.length (bytesV l) := ho.frame fun k hk => hb1.block k (ho.lt k hk)
  have hpv := putVar_len 9 s.size (by have e9 : (128 : Nat) ^ 9 = 9223372036854775808 := by decide
                                      omega) (by omega)
  have hmx : l.length + (putVar s.size).length ≤ maxLen := by unfold maxLen; omega
  obtain ⟨v3, w3, hr3, hA3⟩ := run_append_src (P := Try.prog) bytesT bytesT 0 hO1 ho1.src (bytesV_one _) hmx (by omega)
  have hO3 := hA3.own
  obtain ⟨_, a3, c3, rfl, _⟩ := hO3.src
  have hp3 : w3.heap[p]? = _ := (hA3.grown.block p (lt_of_at hp1) (fun e => own_not hO1 hp1 p e.symm rfl)).trans hp1
  obtain ⟨v4, w4, hr4, hA4⟩ := run_append_Str (P := Try.prog) bytesT (u := 9) (by kernel_rfl) 0 hO3 s (by unfold maxLen; omega) (by omega)
  have hO4 := hA4.own
  obtain ⟨_, a4, c4, rfl, _⟩ := hO4.src
  have hp4 : w4.heap[p]? = _ := (hA4.grown.block p (lt_of_at hp3) (fun e => own_not hO3 hp3 p e.symm rfl)).trans hp3
  refine ⟨a1, _, c1, he, by rw [cell_of_row _ p _ _ _ _ hp1]; rfl, a3, _, c3, w3, fun _ => hr3, by rw [cell_of_row _ p _ _ _ _ hp3]; rfl, a4, _, c4, w4, fun _ => hr4, by rw [cell_of_row _ p _ _ _ _ hp4]; rfl, frozen_of_row w4 p 0 _ _ hp4, ?_⟩
  have hs1 := hb1.size
  have hB1 : Below w.heap.size w w1 := below_then hb hb1
  have hf3 : ∀ k, (Value.slice a3 (l.length + (putVar s.size).length) c3).ownBlock = some k → w.heap.size ≤ k := fun k hk => by
    rcases hA3.block k hk with h | h
    · exact hf k h
    · omega
  have hB3 : Below w.heap.size w w3 := hB1.grown hA3.grown (by omega) hf
  have hs3 := hB3.size
  have hB4 : Below w.heap.size w w4 := hB3.grown hA4.grown (by omega) hf3
  have hnb := own_not hO4 hp4
  refine ⟨.slice a4 (l.length + (putVar s.size).length + s.size) c4, ?_, ?_, fun k hk => ?_, hB4.setCell (p := ⟨p, 0, none⟩) hwp _, hwp⟩
  · rw [setCell_eq_setRow w4 p 0 _ _ _ _ hp4]; exact setRow_heap w4 p _ _ _ _ hp4
  · have e1 : (l ++ textB s.data.toList).length = l.length + (putVar s.size).length + s.size := by
      unfold textB
      rw [List.length_append, List.length_append, Nat.add_assoc]; rfl
    have e2 : bytesV (l ++ textB s.data.toList) = bytesV l ++ bytesV (putVar s.size) ++ Lib.strCells s := by
      rw [strCells_bytesV]
      unfold textB bytesV
      rw [List.map_append, List.map_append, List.append_assoc]; rfl
    rw [e1, e2]
    exact hO4.frame fun k hk => Below.heap_setCell _ _ _ _ (hnb k hk)
  · rcases hA4.block k hk with h | h
    · exact hf3 k h
    · omega
end Go.Proofs.Ytgnnnjabgoadaaa

namespace Go.Proofs.Ytgnnnjabgoadaaa
open Go.RowKit

set_option maxRecDepth 100000 in
set_option maxHeartbeats 1000000 in
theorem clos_any (w wr : World) (p : Nat) (l : List UInt8) (s : ByteArray) (h : BAt w p l wr) (hs : s.size < 10000000000) (hl : l.length < 10000000000) :
    Calls Try.prog 46 #[.string s, .pointer (some ⟨p, 0, none⟩)] wr fun e w' => e = .returned (.tuple #[]) ∧ BAt w p (l ++ textB s.data.toList) w' := by
  have h2 : BAt w p l wr.drew := by
    obtain ⟨v, h1, h2, h3, h4, h5⟩ := h
    exact ⟨v, h1, h2, h3, h4.drew, h5⟩
  obtain ⟨a0, n0, c0, hc0, hV⟩ := h2.text s hs hl
  have hc00 : wr.cell? ⟨p, 0, none⟩ = some (.slice a0 n0 c0) := hc0
  have HV := Lib.hid hV
  clear hV h2 h
  go_enter Try.func46, Try.ntmps46
  go_region_law (first | (refine step_value (o := ⟨some 7, _, _, _, _, _⟩) rfl _ _ (exec_append rfl rfl rfl (hr3 _)) ?_) | (refine step_value (o := ⟨some 9, _, _, _, _, _⟩) rfl _ _ (exec_append rfl rfl rfl (hr4 _)) ?_) | (go_simp; go_at_call 45; refine Calls.mono HV.out ?_; rintro e w1 ⟨a1, n1, c1, rfl, hc1, a3, n3, c3, w3, hr3, hc3, a4, n4, c4, w4, hr4, hc4, hfz4, hfin⟩))
  all_goals
    have HFIN := Lib.hid hfin
    clear hfin
    go_end0
    exact ⟨rfl, HFIN.out⟩

theorem flatE_take {r : List Ent} {k : Nat} {x : Ent} (h : r[k]? = some x) : flatE (r.take (k + 1)) = flatE (r.take k) ++ textB x.1.data.toList ++ textB x.2.data.toList := by
  have e : r.take (k + 1) = r.take k ++ [x] := by rw [List.take_add_one, h]; rfl
  rw [e, flatE_append, List.append_assoc]
  simp [flatE]

theorem flatE_size {r : List Ent} {k : Nat} {x : Ent} (h : r[k]? = some x) : (flatE (r.take k)).length + x.1.size + x.2.size ≤ (flatE r).length ∧ (flatE (r.take k) ++ textB x.1.data.toList).length ≤ (flatE r).length := by
  have e : flatE r = flatE (r.take (k + 1)) ++ flatE (r.drop (k + 1)) := by rw [← flatE_append, List.take_append_drop]
  rw [e, flatE_take h]
  have h1 : x.1.data.toList.length = x.1.size := rfl
  have h2 : x.2.data.toList.length = x.2.size := rfl
  unfold textB
  simp only [List.length_append, h1, h2]
  omega

theorem BAt.ret {w w1 wr : World} {p : Nat} {l : List UInt8} (hb : Below w.heap.size w w1) (h : BAt w1 p l wr) : ∃ a m c, wr.cell? ⟨p, 0, none⟩ = some (.slice a m c) ∧ RetB w l (.returned (.slice a m c)) wr := by
  obtain ⟨v, hp, ho, _, hb1, _⟩ := h
  have ho' := ho
  obtain ⟨_, a, c, rfl, _⟩ := ho'.src
  exact ⟨a, _, c, by rw [cell_of_row _ p _ _ _ _ hp]; rfl, a, c, rfl, ho, below_then hb hb1⟩

set_option maxRecDepth 100000 in
set_option maxHeartbeats 4000000 in
theorem bytes_any (w : World) (b : Nat) (s : St) (L : List Nat) (h : SRep w b s L) (hb : s.size < 1000000000000) (hz : (bytesE s.ents).length < 10000000000) : Calls Try.prog 17 #[.pointer (some ⟨b, 0, none⟩)] w (RetB w (bytesE s.ents)) := by
  have hAll := all_any w b s L h hb
  generalize s.ents = r at *
  have hrl : r.length < 9223372036854775807 := by
    have h1 : ∀ l : List Ent, l.length ≤ (flatE l).length := fun l => by
      induction l with
      | nil => exact Nat.le_refl _
      | cons x l ih =>
        have := putVar_len 9
        simp only [flatE, List.length_append, List.length_cons, textB]
        have h3 : 0 < (putVar x.1.data.toList.length).length := by
          rw [putVar]; split <;> simp
        omega
    have := h1 r
    unfold bytesE at hz
    rw [List.length_append] at hz
    omega
  have HA : Hid (Calls Try.prog 19 #[.pointer (some ⟨b, 0, none⟩)] w fun e w1 => ∃ a c, e = .returned (.slice a r.length c) ∧ PairsAt w1 a r ∧ Below w.heap.size w w1 ∧
      Calls Try.prog 45 #[.slice none 0 0, .int .i64 r.length] w1 fun e w2 => ∃ a2 n2 c2, e = .returned (.slice a2 n2 c2) ∧ BAt w1 w2.heap.size (putVar r.length ++ flatE (r.take 0)) (w2.alloc (.cells #[.slice a2 n2 c2] 36))) :=
    hAll.mono fun e w1 ⟨v, he, hO⟩ => by
      obtain ⟨a, c, rfl, hp⟩ := hO.1.pairs
      refine ⟨a, c, he, hp, hO.2.2, (varw_any w1 (.slice none 0 0) [] r.length ⟨rfl, none, 0, rfl, fun j u hj => by cases hj⟩ (by simp) (by omega)).mono fun e w2 ⟨v2, he2, ho2, hf2, hb2⟩ => ?_⟩
      rw [List.nil_append] at ho2
      obtain ⟨_, a2, c2, rfl, _⟩ := ho2.src
      refine ⟨a2, _, c2, he2, _, heap_alloc_new w2 _, ?_, hf2, hb2.alloc hb2.size _, hb2.size⟩
      have e0 : putVar r.length ++ flatE (r.take 0) = putVar r.length := by simp [flatE]
      rw [e0]
      exact ho2.frame fun k hk => heap_alloc_old w2 _ (ho2.lt k hk)
  have HEND : Hid (∀ w1 p wr, Below w.heap.size w w1 → BAt w1 p (putVar r.length ++ flatE (r.take r.length)) wr → ∃ a m c, wr.cell? ⟨p, 0, none⟩ = some (.slice a m c) ∧ RetB w (bytesE r) (.returned (.slice a m c)) wr) := fun w1 p wr h1 h2 => by
    rw [List.take_length] at h2
    exact h2.ret h1
  have HT : Hid (∀ k x, r[k]? = some x → putVar r.length ++ flatE (r.take (k + 1)) = putVar r.length ++ flatE (r.take k) ++ textB x.1.data.toList ++ textB x.2.data.toList) := fun k x hx => by
    rw [flatE_take hx]; simp only [List.append_assoc]
  have HS : Hid (∀ k x, r[k]? = some x → x.1.size < 10000000000 ∧ x.2.size < 10000000000 ∧ (putVar r.length ++ flatE (r.take k)).length < 10000000000 ∧ (putVar r.length ++ flatE (r.take k) ++ textB x.1.data.toList).length < 10000000000) := fun k x hx => by
    have h1 := flatE_size hx
    unfold bytesE at hz
    rw [List.length_append] at hz h1
    simp only [List.length_append]
    omega
  have hget : ∀ k, k < r.length → ∃ x, r[k]? = some x := fun k hk => ⟨_, List.getElem?_eq_getElem hk⟩
  have HGET := Lib.hid hget
  clear hAll h hz hget hb
  generalize RetB w (bytesE r) = R at *
  generalize r.length = n at *
  generalize hl : putVar n = ln at *
  clear hl
  go_enter Try.func17, Try.ntmps17
  go_wp2_with fail
  refine Calls.mono HA.out ?_
  rintro e w1 ⟨a, c, rfl, hp, hB1, hV⟩
  have HV := Lib.hid hV
  have HP := Lib.hid hp
  clear hV HA hp
  go_wp2_with fail
  refine Calls.mono HV.out ?_
  rintro e w2 ⟨a2, n2, c2, rfl, hS⟩
  have H0 := Lib.hid hS
  clear hS HV
  go_wp2_with fail
  generalize w2.heap.size = p at *
  go_loopw [15] (fun i wr => ∃ k : Nat, i = .int .i64 k ∧ k ≤ n ∧ BAt w1 p (ln ++ flatE (r.take k)) wr) (fun i _ => n - (intOf i).toNat)
  case atStart => exact ⟨0, rfl, by omega, H0.out⟩
  case round =>
    obtain ⟨k, rfl, hk, hS⟩ := hrel
    have HB := Lib.hid hS
    clear hS H0
    by_cases hlt : k < n
    · obtain ⟨x, hx⟩ := HGET.out k hlt
      obtain ⟨hs1, hs2, hs3, hs4⟩ := HS.out k x hx
      obtain ⟨g, rfl, hc1, hc2⟩ := HP.out.at0 k x hx
      have hstay : ∀ (wq : World) (l : List UInt8), BAt w1 p l wq → wq.cell? ⟨g, k * 2, none⟩ = some (.string x.1) ∧ wq.cell? ⟨g, k * 2 + 1, none⟩ = some (.string x.2) := fun wq l hq => by
        obtain ⟨_, _, _, _, hb, _⟩ := hq
        exact ⟨by rw [hb.cell (p := ⟨g, k * 2, none⟩) (World.block_lt_of_cell? w1 _ hc1)]; exact hc1, by rw [hb.cell (p := ⟨g, k * 2 + 1, none⟩) (World.block_lt_of_cell? w1 _ hc2)]; exact hc2⟩
      obtain ⟨hd1, hd2⟩ := hstay _ _ HB.out
      have HC1 := Lib.hid (clos_any w1 wr p _ x.1 HB.out hs1 hs3)
      have HC2 : Hid (∀ wq, BAt w1 p (ln ++ flatE (r.take k) ++ textB x.1.data.toList) wq → (wq.cell? ⟨g, k * 2, none⟩ = some (.string x.1) ∧ wq.cell? ⟨g, k * 2 + 1, none⟩ = some (.string x.2)) ∧ Calls Try.prog 46 #[.string x.2, .pointer (some ⟨p, 0, none⟩)] wq fun e w' => e = .returned (.tuple #[]) ∧ BAt w1 p (ln ++ flatE (r.take (k + 1))) w') := fun wq hq => ⟨hstay _ _ hq, by
        rw [HT.out k x hx]
        exact clos_any w1 wq p _ x.2 hq hs2 hs4⟩
      have hk0 : (0 : Int) ≤ (k : Int) := Int.natCast_nonneg _
      have hk1 : (k : Int) < (n : Int) := by omega
      clear hs1 hs2 hs3 hs4 hc1 hc2 hstay hx
      generalize x.1 = y at *
      generalize x.2 = z at *
      go_wp2_with fail
      refine Calls.mono HC1.out ?_
      rintro e w3 ⟨rfl, hB3⟩
      obtain ⟨⟨hd3, hd4⟩, hC⟩ := HC2.out _ hB3
      have HC3 := Lib.hid hC
      clear hC hB3 HC1 HC2
      go_wp2_with fail
      refine Calls.mono HC3.out ?_
      rintro e w4 ⟨rfl, hB4⟩
      have HB4 := Lib.hid hB4
      clear hB4 HC3
      go_wp2
      go_roundw
      case rel => exact ⟨k + 1, by go_num, by omega, HB4.out⟩
      case measure => simp [intOf]; omega
    · obtain rfl : k = n := by omega
      obtain ⟨a5, m5, c5, hc5, hR⟩ := HEND.out _ _ _ hB1 HB.out
      have HR := Lib.hid hR
      clear hR
      go_wp2_with fail
      exact HR.out
end Go.Proofs.Ytgnnnjabgoadaaa
