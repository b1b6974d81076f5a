/- What is proved here: two of the program's stores side by side, as ViewBack holds them; how many bytes they take. Their condition: sizes within 2^30. a slice of pairs of strings that came in, opened; its sizes within its bulk. what ViewBack's walk wants: a round of its loop, and its end. Their condition: fewer than 10^9 bytes. ViewBack behind its loop. Its condition: fewer than 10^9 bytes. the walk of ViewBack where a list is too long: it lives at once. Its condition: one of the three lengths is beyond its bound. -/
import Derived.Test.YtgnnnjabgoadaaaBytes
import Derived.Test.YtgnnnjabgoadaaaRow
import Derived.ChangeSlices
namespace Go.Proofs.Ytgnnnjabgoadaaa
open Go.RowKit

def totE : List Ent → Nat
  | [] => 0
  | x :: l => x.1.size + x.2.size + totE l

theorem totE_put : ∀ (l : List Ent) (k v : ByteArray), totE (putE l k v) ≤ totE l + k.size + v.size
  | [], k, v => by simp [putE, totE]
  | (a, b) :: l, k, v => by
    rw [putE]
    split
    · have := totE_put l k v
      simp only [totE]; omega
    · split
      · simp only [totE]; omega
      · simp only [totE]; omega

theorem totE_mem {l : List Ent} {x : Ent} (h : x ∈ l) : x.1.size + x.2.size ≤ totE l := by
  induction l with
  | nil => cases h
  | cons y l ih =>
    rcases List.mem_cons.1 h with rfl | h
    · simp only [totE]; omega
    · have := ih h
      simp only [totE]; omega

theorem flatE_len : ∀ (l : List Ent), totE l < 9223372036854775808 → (flatE l).length ≤ totE l + 18 * l.length
  | [], _ => by simp [flatE]
  | x :: l, h => by
    simp only [totE] at h ⊢
    have ih := flatE_len l (by omega)
    have e9 : (128 : Nat) ^ 9 = 9223372036854775808 := by decide
    have h1 := (putVar_len 9 x.1.size (by omega) (by omega)).2
    have h2 := (putVar_len 9 x.2.size (by omega) (by omega)).2
    have k1 : x.1.data.toList.length = x.1.size := rfl
    have k2 : x.2.data.toList.length = x.2.size := rfl
    simp only [flatE, textB, List.length_append, List.length_cons, k1, k2]
    omega

/-- Set, as the law calls it: an empty key changes nothing. -/
def St.setA (s : St) (k v : ByteArray) : St := if k = emptyB then s else s.set k v

/-- A store that came about by so many calls, of so many bytes. -/
structure St.Lit (s : St) (n c : Nat) : Prop where
  size : s.size ≤ 2 * c
  tot : totE s.ents ≤ n
  keys : ∀ x ∈ s.ents, x.1 ≠ emptyB

theorem St.Lit.empty : emptySt.Lit 0 0 := ⟨by decide, by decide, by simp [emptySt]⟩
theorem St.Lit.mono {s : St} {n c n' c' : Nat} (h : s.Lit n c) (hn : n ≤ n') (hc : c ≤ c') : s.Lit n' c' := ⟨by have := h.size; omega, Nat.le_trans h.tot hn, h.keys⟩
theorem St.Lit.setA {s : St} {n c : Nat} (h : s.Lit n c) (k v : ByteArray) : (s.setA k v).Lit (n + k.size + v.size) (c + 1) := by
  unfold St.setA
  split
  · exact h.mono (by omega) (by omega)
  · rename_i hk
    refine ⟨by have := s.set_size k v; have := h.size; omega, ?_, fun x hx => ?_⟩
    · have := h.tot
      unfold St.set
      split
      · omega
      · exact Nat.le_trans (totE_put _ _ _) (by omega)
    · unfold St.set at hx
      split at hx
      · exact h.keys x hx
      · rcases putE_mem hx with rfl | hx
        · exact hk
        · exact h.keys x hx

theorem St.Lit.bytes {s : St} {n c : Nat} (h : s.Lit n c) (hn : n < 1000000000) (hc : c < 10000000) : (bytesE s.ents).length < 10000000000 ∧ s.size < 1000000000000 := by
  have h1 := h.size
  have h2 := h.tot
  unfold St.size at h1 ⊢
  have e9 : (128 : Nat) ^ 9 = 9223372036854775808 := by decide
  have h3 := flatE_len s.ents (by omega)
  have h4 := (putVar_len 9 s.ents.length (by omega) (by omega)).2
  unfold bytesE
  rw [List.length_append]
  omega

theorem St.Lit.back {s : St} {n c : Nat} (h : s.Lit n c) (hs : Sorted s.ents) (hn : n < 1000000000) (hc : c < 10000000) : loadE (bytesE s.ents) = .ok s.ents := by
  have h1 := h.size
  have h2 := h.tot
  unfold St.size at h1
  exact loadE_put hs h.keys (fun x hx => by have := totE_mem hx; omega) (by omega)

theorem setA_any (w : World) (b : Nat) (s : St) (L : List Nat) (k v : ByteArray) (h : SRep w b s L) (hb : s.size < 1000000000000) :
    Calls Try.prog 15 #[.pointer (some ⟨b, 0, none⟩), .string k, .string v] w fun e w' => (∃ x : Int, e = .returned (.int .i64 x)) ∧ ∃ L', SRep w' b (s.setA k v) L' ∧ Step w L w' L' := by
  unfold St.setA
  by_cases hk : k = emptyB
  · subst hk
    rw [if_pos rfl]
    refine (set_emptyK w b v h.cell0).mono fun e w' ⟨he, hw⟩ => ?_
    subst hw
    exact ⟨⟨2, he⟩, L, h, Step.refl w L⟩
  · rw [if_neg hk]
    exact (set_any w b s L k v h hk hb).mono fun e w' ⟨he, L', h1, h2⟩ => ⟨⟨0, he⟩, L', h1, h2⟩

/-- Two stores of the program's, neither in the other's blocks. -/
structure VB (w : World) (b1 b2 : Nat) (s t : St) (wr : World) : Prop where
  bl : Below w.heap.size w wr
  st : ∃ L1 L2, SRep wr b1 s L1 ∧ SRep wr b2 t L2 ∧ (∀ k ∈ L1, w.heap.size ≤ k) ∧ (∀ k ∈ L2, w.heap.size ≤ k) ∧ ∀ k ∈ L1, k ∉ L2

theorem VB.below {w wr w2 : World} {b1 b2 : Nat} {s t : St} (h : VB w b1 b2 s t wr) (hb : Below wr.heap.size wr w2) : VB w b1 b2 s t w2 := by
  obtain ⟨h1, L1, L2, h2, h3, h4⟩ := h
  exact ⟨below_then h1 hb, L1, L2, h2.below hb, h3.below hb, h4⟩

theorem VB.swap {w wr : World} {b1 b2 : Nat} {s t : St} (h : VB w b1 b2 s t wr) : VB w b2 b1 t s wr := by
  obtain ⟨h1, L1, L2, h2, h3, h4, h5, h6⟩ := h
  exact ⟨h1, L2, L1, h3, h2, h5, h4, fun k hk hm => h6 k hm hk⟩

theorem VB.set {w wr : World} {b1 b2 : Nat} {s t : St} (h : VB w b1 b2 s t wr) (k v : ByteArray) (hb : s.size < 1000000000000) :
    Calls Try.prog 15 #[.pointer (some ⟨b1, 0, none⟩), .string k, .string v] wr fun e w' => (∃ x : Int, e = .returned (.int .i64 x)) ∧ VB w b1 b2 (s.setA k v) t w' ∧ Fr (fun k => w.heap.size ≤ k ∧ k < wr.heap.size ∧ ∃ L1, SRep wr b1 s L1 ∧ k ∈ L1) wr w' := by
  obtain ⟨h1, L1, L2, h2, h3, h4, h5, h6⟩ := h
  refine (setA_any wr b1 s L1 k v h2 hb).mono fun e w' ⟨he, L', h7, h8⟩ => ⟨he, ⟨?_, L', L2, h7, h3.fr h8.fr (fun k hk hm => h6 k hm hk), fun k hk => ?_, h5, fun k hk hm => ?_⟩, h8.fr.mono fun k hk hm => ⟨h4 k hm, hk, L1, h2, hm⟩⟩
  · exact ⟨h8.fr.os.trans h1.os, h8.fr.tape.trans h1.tape, h8.fr.output.trans h1.output, Nat.le_trans h1.size h8.fr.size, fun k hk => (h8.fr.block k (Nat.lt_of_lt_of_le hk h1.size) (fun hm => by have := h4 k hm; omega)).trans (h1.block k hk)⟩
  · rcases h8.own k hk with h | h
    · exact h4 k h
    · exact Nat.le_trans h1.size h
  · rcases h8.own k hk with h | h
    · exact h6 k h hm
    · have := h3.lt k hm
      omega
end Go.Proofs.Ytgnnnjabgoadaaa

namespace Go.Proofs.Ytgnnnjabgoadaaa
open Go.RowKit Go.ChangeShapes Go.WideShapes Go.ChangeAt

section
variable {H : Type} {enc : TypeId × Value → H} {w : World} {base : Nat} {spare : Nat → Bool} {held : Bool}

theorem bulk_all_append : ∀ (l r : List (DataW H)), Rows.uptoBulkAll (l ++ r) = Rows.uptoBulkAll l + Rows.uptoBulkAll r
  | [], r => by simp [Rows.uptoBulkAll]
  | d :: l, r => by rw [List.cons_append, Rows.uptoBulkAll, Rows.uptoBulkAll, bulk_all_append l r, Nat.add_assoc]

theorem bulk_str (s : ByteArray) : Rows.uptoBulk (H := H) (.lit (.string s.data.toList)) = s.size + 1 := by
  rw [Rows.uptoBulk]; rfl

set_option maxRecDepth 100000 in
/-- One pair. -/
theorem open_pairV {fuel : Nat} {cs : List Value} {x : DataW H × List MemPlace} (h : DataW.trod enc Try.prog w base spare held fuel 39 cs = some x) :
    ∃ a b : ByteArray, cs = [.string a, .string b] ∧ a.size + b.size ≤ Rows.uptoBulk x.1 := by
  obtain ⟨fs, hfs, h0, h1⟩ : ∃ fs : Array Field, Try.prog.underlying 39 = some (.struct fs) ∧ (∃ f, fs[0]? = some f ∧ f.offset = 0 ∧ Try.prog.cellsOf f.type = 1 ∧ Try.prog.underlying f.type = some .string) ∧ (∃ f, fs[1]? = some f ∧ f.offset = 1 ∧ Try.prog.cellsOf f.type = 1 ∧ Try.prog.underlying f.type = some .string) :=
    ⟨_, Try.underlying39, ⟨_, rfl, rfl, by kernel_rfl, by kernel_rfl⟩, ⟨_, rfl, rfl, by kernel_rfl, by kernel_rfl⟩⟩
  obtain ⟨xs, n, _, rfl, hlen, hxl, hg⟩ := DataW.trod_struct hfs h
  have hc2 : Try.prog.cellsOf 39 = 2 := by kernel_rfl
  rw [hc2] at hlen
  obtain ⟨f0, hf0, o0, c0, u0⟩ := h0
  obtain ⟨f1, hf1, o1, c1, u1⟩ := h1
  have hfz : 1 < fs.size := (Array.getElem?_eq_some_iff.1 hf1).1
  have e0 := hg 0 f0 hf0
  have e1 := hg 1 f1 hf1
  rw [o0, c0] at e0
  rw [o1, c1] at e1
  match cs, hlen with
  | [v0, v1], _ =>
    cases hx0 : xs[0]? with
    | none => rw [List.getElem?_eq_none_iff] at hx0; omega
    | some y0 =>
      cases hx1 : xs[1]? with
      | none => rw [List.getElem?_eq_none_iff] at hx1; omega
      | some y1 =>
        rw [hx0] at e0
        rw [hx1] at e1
        obtain ⟨s0, h0, rfl, _⟩ := DataW.trod_string u0 e0
        obtain ⟨s1, h1, rfl, _⟩ := DataW.trod_string u1 e1
        simp at h0 h1
        subst h0 h1
        refine ⟨s0, s1, rfl, ?_⟩
        obtain ⟨r, hr⟩ : ∃ r, xs = (.lit (.string s0.data.toList), []) :: (.lit (.string s1.data.toList), []) :: r := by
          match xs, hx0, hx1 with
          | x :: y :: r, hx0, hx1 => simp at hx0 hx1; subst hx0 hx1; exact ⟨r, rfl⟩
        rw [hr]
        simp only [List.map_cons, Rows.uptoBulk, Rows.uptoBulkAll]
        have k0 : s0.data.toList.length = s0.size := rfl
        have k1 : s1.data.toList.length = s1.size := rfl
        rw [k0, k1]
        omega

/-- Pairs that came in. -/
structure PairsB (w : World) (a : Option Addr) (l : List Ent) : Prop where
  at0 : ∀ k x, l[k]? = some x → ∃ ad, a = some ad ∧ w.cell? ((ad.add (k * 2)).add 0) = some (.string x.1) ∧ w.cell? ((ad.add (k * 2)).add 1) = some (.string x.2)

theorem bulk_all_map {l : List (DataW H × List MemPlace)} {es : List Ent} (hl : l.length = es.length) (h : ∀ (i : Nat) x e, l[i]? = some x → es[i]? = some e → e.1.size + e.2.size ≤ Rows.uptoBulk x.1) : totE es ≤ Rows.uptoBulkAll (l.map (·.1)) := by
  induction l generalizing es with
  | nil =>
    cases es with
    | nil => exact Nat.le_refl _
    | cons e r => simp at hl
  | cons x l ih =>
    cases es with
    | nil => simp at hl
    | cons e r =>
      have h0 := h 0 x e rfl rfl
      have := ih (es := r) (by simpa using hl) (fun i x e hx he => h (i + 1) x e hx he)
      simp only [totE, List.map_cons, Rows.uptoBulkAll]
      omega

def entOf (w : World) (base : Nat) (a : Addr) (i : Nat) : Ent := match w.cells? base (a.add (i * 2)) 2 with
  | some [.string x, .string y] => (x, y)
  | _ => (emptyB, emptyB)

set_option maxRecDepth 100000 in
theorem open_pairsV {r : Reach} {b0 : Nat} {v : Value} {d : DataW H} {p : List MemPlace} (hv : Value.okWide Try.prog w r b0 35 v) (h : DataW.Trod enc Try.prog w base spare held 35 v d p) :
    ∃ (l : List Ent) (a : Option Addr) (c : Nat), v = .slice a l.length c ∧ PairsB w a l ∧ totE l ≤ Rows.uptoBulk d := by
  obtain ⟨a, len, cap, rfl⟩ := okWide_slice Try.underlying35 hv
  obtain ⟨fuel, hf⟩ := h
  have hc2 : Try.prog.cellsOf 39 = 2 := by kernel_rfl
  rcases DataW.trod_slice Try.underlying35 hf with ⟨h1, _⟩ | ⟨a', len', cap', elems, rest, n, _, h1, h2, _, _, _, hlen, hel, _⟩
  · have h2 : [Value.slice a len cap] = [.slice none 0 0] := h1
    cases h2
    exact ⟨[], none, 0, rfl, ⟨fun k x hx => by simp at hx⟩, Nat.zero_le _⟩
  · have h3 : [Value.slice a len cap] = [.slice (some a') len' cap'] := h1
    cases h3
    rw [hc2] at hel
    have each : ∀ i x, elems[i]? = some x → ∃ y z : ByteArray, w.cells? base (a'.add (i * 2)) 2 = some [.string y, .string z] ∧ y.size + z.size ≤ Rows.uptoBulk x.1 := fun i x hx => by
      have hi : i < len := by have := (List.getElem?_eq_some_iff.1 hx).1; omega
      have := hel i hi
      rw [hx, Option.bind_eq_some_iff] at this
      obtain ⟨cs, hcs, ht⟩ := this
      obtain ⟨y, z, rfl, hb⟩ := open_pairV ht
      exact ⟨y, z, hcs, hb⟩
    refine ⟨(List.range len).map (entOf w base a'), some a', cap, by simp, ⟨fun k x hx => ?_⟩, ?_⟩
    · rw [List.getElem?_map, Option.map_eq_some_iff] at hx
      obtain ⟨i, hi, rfl⟩ := hx
      have hk : k < len := by have := (List.getElem?_eq_some_iff.1 hi).1; simpa using this
      have hik : i = k := by rw [List.getElem?_range hk] at hi; exact (Option.some.inj hi).symm
      subst hik
      obtain ⟨y, z, hcs, _⟩ := each i _ (List.getElem?_eq_getElem (by omega))
      have he : entOf w base a' i = (y, z) := by unfold entOf; rw [hcs]
      obtain ⟨_, _, hc⟩ := World.cells?_some hcs
      rw [he]
      exact ⟨a', rfl, hc 0 (by omega), hc 1 (by omega)⟩
    · have hd : d = .slice (elems.map (·.1)) (rest.map (·.1)) := by
        injection h2
      rw [hd, Rows.uptoBulk]
      have := bulk_all_map (l := elems) (es := (List.range len).map (entOf w base a')) (by simp [hlen]) (fun i x e hx he => by
        rw [List.getElem?_map, Option.map_eq_some_iff] at he
        obtain ⟨j, hj, rfl⟩ := he
        have hi : i < len := by have := (List.getElem?_eq_some_iff.1 hx).1; omega
        have hij : j = i := by rw [List.getElem?_range hi] at hj; exact (Option.some.inj hj).symm
        subst hij
        obtain ⟨y, z, hcs, hb⟩ := each j x hx
        have he : entOf w base a' j = (y, z) := by unfold entOf; rw [hcs]
        rw [he]; exact hb)
      omega
end
end Go.Proofs.Ytgnnnjabgoadaaa

namespace Go.Proofs.Ytgnnnjabgoadaaa
open Go.RowKit

/-- Set, where blocks of the walk's own lie above. -/
theorem VB.setq {w wr w2 : World} {b1 b2 : Nat} {s t : St} (h : VB w b1 b2 s t wr) (hb : Below wr.heap.size wr w2) (k v : ByteArray) (hz : s.size < 1000000000000) :
    Calls Try.prog 15 #[.pointer (some ⟨b1, 0, none⟩), .string k, .string v] w2 fun e w' => (∃ x : Int, e = .returned (.int .i64 x)) ∧ VB w b1 b2 (s.setA k v) t w' ∧ ∀ q, wr.heap.size ≤ q → q < w2.heap.size → w'.heap[q]? = w2.heap[q]? := by
  obtain ⟨h1, L1, L2, h2, h3, h4, h5, h6⟩ := h
  have hs := h1.size
  have hB2 : Below w.heap.size w w2 := below_then h1 hb
  refine (setA_any w2 b1 s L1 k v (h2.below hb) hz).mono fun e w' ⟨he, L', h7, h8⟩ => ⟨he, ⟨?_, L', L2, h7, (h3.below hb).fr h8.fr (fun k hk hm => h6 k hm hk), fun k hk => ?_, h5, fun k hk hm => ?_⟩, fun q hq hq2 => h8.fr.block q hq2 (fun hm => by have := h2.lt q hm; omega)⟩
  · exact ⟨h8.fr.os.trans hB2.os, h8.fr.tape.trans hB2.tape, h8.fr.output.trans hB2.output, Nat.le_trans hB2.size h8.fr.size, fun k hk => (h8.fr.block k (Nat.lt_of_lt_of_le hk hB2.size) (fun hm => by have := h4 k hm; omega)).trans (hB2.block k hk)⟩
  · rcases h8.own k hk with h | h
    · exact h4 k h
    · exact Nat.le_trans hB2.size h
  · rcases h8.own k hk with h | h
    · exact h6 k h hm
    · have := (h3.below hb).lt k hm
      omega

theorem VB.start {w w1 w2 : World} {b1 b2 : Nat} {L1 L2 : List Nat} (h1 : SRep w1 b1 emptySt L1) (h2 : Fr (fun _ => False) w w1) (h3 : ∀ k ∈ L1, w.heap.size ≤ k) (g1 : SRep w2 b2 emptySt L2) (g2 : Fr (fun _ => False) w1 w2) (g3 : ∀ k ∈ L2, w1.heap.size ≤ k) : VB w b1 b2 emptySt emptySt w2 :=
  ⟨below_then h2.below g2.below, L1, L2, h1.below g2.below, g1, h3, fun k hk => Nat.le_trans h2.size (g3 k hk), fun k hk hm => by have := h1.lt k hk; have := g3 k hm; omega⟩

theorem conv_later {w w' : World} {a : Option Addr} {c : Nat} {l : List UInt8} (h : Own w 5 1 (.slice a l.length c) l.length (bytesV l)) (hb : Below w.heap.size w w') : (convert 36 9 (.slice a l.length c)).run Try.prog w' = .ok (.string ⟨l.toArray⟩) w' :=
  run_conv_any (h.frame fun k hk => hb.block k (h.lt k hk))

theorem ba_eq_iff {l r : List UInt8} : ((⟨l.toArray⟩ : ByteArray).toList == (⟨r.toArray⟩ : ByteArray).toList) = decide (l = r) := by
  rw [ByteArray.toList_eq, ByteArray.toList_eq]
  by_cases h : l = r
  · subst h; simp
  · simp [h]

/-- The end of ViewBack. -/
def BackEnd (w : World) (b1 b2 : Nat) (wr : World) : Prop :=
  Calls Try.prog 17 #[.pointer (some ⟨b1, 0, none⟩)] wr fun e w1 => ∃ a1 n1 c1 s1, e = .returned (.slice a1 n1 c1) ∧ (∀ w', Below w1.heap.size w1 w' → (convert 36 9 (.slice a1 n1 c1)).run Try.prog w' = .ok (.string s1) w') ∧
    Calls Try.prog 17 #[.pointer (some ⟨b2, 0, none⟩)] w1 fun e w2 => Below w1.heap.size w1 w2 ∧ ∃ a2 n2 c2 s2, e = .returned (.slice a2 n2 c2) ∧ (∀ w', Below w2.heap.size w2 w' → (convert 36 9 (.slice a2 n2 c2)).run Try.prog w' = .ok (.string s2) w') ∧
      Calls Try.prog 19 #[.pointer (some ⟨b1, 0, none⟩)] w2 fun e w3 => Below w2.heap.size w2 w3 ∧ ∃ a3 n3 c3, e = .returned (.slice a3 n3 c3) ∧
        Calls Try.prog 19 #[.pointer (some ⟨b2, 0, none⟩)] w3 fun e w4 => Below w3.heap.size w3 w4 ∧ ∃ a4 n4 c4, e = .returned (.slice a4 n4 c4) ∧
          Calls Try.prog 18 #[.slice a3 n3 c3, .slice a4 n4 c4] w4 fun e w5 => e = .returned (.bool (s1.toList == s2.toList)) ∧ Below w4.heap.size w4 w5 ∧
            Calls Try.prog 13 #[] w5 fun e w6 => e = .returned (.bool true) ∧ Below w5.heap.size w5 w6 ∧ Below w.heap.size w w6

theorem VB.fin {w wr : World} {b1 b2 : Nat} {s t : St} (h : VB w b1 b2 s t wr) {n c : Nat} (hs : s.Lit n c) (ht : t.Lit n c) (hn : n < 1000000000) (hc : c < 10000000) : BackEnd w b1 b2 wr := by
  obtain ⟨h1, L1, L2, h2, h3, _⟩ := h
  have hzs := hs.bytes hn hc
  have hzt := ht.bytes hn hc
  have hes := hs.back h2.srt hn hc
  have het := ht.back h3.srt hn hc
  have hiff : decide (bytesE s.ents = bytesE t.ents) = decide (s.ents = t.ents) := by
    by_cases e : s.ents = t.ents
    · simp [e]
    · have : bytesE s.ents ≠ bytesE t.ents := fun e2 => by
        rw [e2, het] at hes
        exact e (by injection hes with h; exact h.symm)
      simp [e, this]
  refine (bytes_any wr b1 s L1 h2 hzs.2 hzs.1).mono fun e w1 ⟨a1, c1, he1, ho1, hb1⟩ => ⟨a1, _, c1, _, he1, fun w' hb => conv_later ho1 hb, ?_⟩
  refine (bytes_any w1 b2 t L2 (h3.below hb1) hzt.2 hzt.1).mono fun e w2 ⟨a2, c2, he2, ho2, hb2⟩ => ⟨hb2, a2, _, c2, _, he2, fun w' hb => conv_later ho2 hb, ?_⟩
  refine (all_any w2 b1 s L1 ((h2.below hb1).below hb2) hzs.2).mono fun e w3 ⟨v3, he3, hO3⟩ => ?_
  obtain ⟨a3, c3, rfl, hp3⟩ := hO3.1.pairs
  have hb3 := hO3.2.2
  refine ⟨hb3, a3, _, c3, he3, (all_any w3 b2 t L2 (((h3.below hb1).below hb2).below hb3) hzt.2).mono fun e w4 ⟨v4, he4, hO4⟩ => ?_⟩
  obtain ⟨a4, c4, rfl, hp4⟩ := hO4.1.pairs
  have hb4 := hO4.2.2
  have hp34 : PairsAt w4 a3 s.ents := (hO3.1.frame (fun k hk => hb4.block k (hO3.1.lt k hk))).pairs.elim fun a' h => by
    obtain ⟨c', e, hp⟩ := h
    cases e; exact hp
  refine ⟨hb4, a4, _, c4, he4, (same_any w4 a3 a4 c3 c4 s.ents t.ents hp34 hp4 (by have := hzs.2; unfold St.size at this; omega)).mono fun e w5 ⟨he5, n5, hw5⟩ => ?_⟩
  subst hw5
  have hb5 : Below w4.heap.size w4 (w4.drewN n5) := below_drewN (Below.refl _ w4) n5
  refine ⟨by rw [he5, ba_eq_iff, hiff], hb5, (lives37 _).mono fun e w6 ⟨he6, hb6⟩ => ⟨he6, hb6, ?_⟩⟩
  exact below_then (below_then (below_then (below_then (below_then (below_then h1 hb1) hb2) hb3) hb4) hb5) hb6
end Go.Proofs.Ytgnnnjabgoadaaa

namespace Go.Proofs.Ytgnnnjabgoadaaa
open Go.RowKit

theorem conv_src {w : World} {a : Option Addr} {c : Nat} {l : List UInt8} (h : Src w 1 (.slice a l.length c) l.length (bytesV l)) :
    (convert 36 9 (.slice a l.length c)).run Try.prog w = .ok (.string ⟨l.toArray⟩) w := by
  obtain ⟨_, a', c', e, hx⟩ := h
  cases e
  cases a with
  | none =>
    cases l with
    | nil => exact run_conv_nil w c
    | cons x r => obtain ⟨_, e, _⟩ := hx 0 _ rfl; cases e
  | some ad =>
    rw [run_convert_bytes_string _ _ _ 5 _ _ _ (by kernel_rfl) (by kernel_rfl) (by kernel_rfl)]
    rw [run_bytesToString _ _ l.length c (l.map (fun (b : UInt8) => (b.toNat : Int)))]
    · rw [fold_bytes]
      simp
    · have := run_loadCells_list (P := Try.prog) w ad (bytesV l) (fun j v hj => by
        obtain ⟨ad', e, h⟩ := hx j v hj
        cases e; exact h)
      rw [bytesV_len] at this
      simpa [bytesV, Function.comp_def] using this

/-- ViewBack behind its loop: the bytes that came in are asked. -/
def BackAsk (w : World) (b1 b2 : Nat) (a : Option Addr) (c : Nat) (l : List UInt8) (wr : World) : Prop :=
  Calls Try.prog 16 #[.slice a l.length c] wr fun e w6 =>
    (∃ x : Int, x ≠ 0 ∧ e = .returned (.tuple #[.pointer none, .int .i64 x]) ∧ BackEnd w b1 b2 w6.drew.drew) ∨
    (∃ v, e = .returned (.tuple #[.pointer (some ⟨v, 0, none⟩), .int .i64 0]) ∧ (convert 36 9 (.slice a l.length c)).run Try.prog w6.drew = .ok (.string ⟨l.toArray⟩) w6.drew ∧
      Calls Try.prog 17 #[.pointer (some ⟨v, 0, none⟩)] w6.drew fun e w7 => ∃ a7 n7 c7, e = .returned (.slice a7 n7 c7) ∧ (convert 36 9 (.slice a7 n7 c7)).run Try.prog w7 = .ok (.string ⟨l.toArray⟩) w7 ∧
        (convert 36 9 (.slice a l.length c)).run Try.prog w7 = .ok (.string ⟨l.toArray⟩) w7 ∧ BackEnd w b1 b2 w7.drew)

theorem below_drew {w w' : World} (h : Below w.heap.size w w') : Below w.heap.size w w'.drew := ⟨h.os, h.tape, h.output, h.size, h.block⟩

theorem VB.drew {w wr : World} {b1 b2 : Nat} {s t : St} (h : VB w b1 b2 s t wr) : VB w b1 b2 s t wr.drew := h.below (below_drew (Below.refl _ wr))

theorem VB.ask {w wr : World} {b1 b2 : Nat} {s t : St} (h : VB w b1 b2 s t wr) {n k : Nat} (hs : s.Lit n k) (ht : t.Lit n k) (hn : n < 1000000000) (hk : k < 10000000) {a : Option Addr} {c : Nat} {l : List UInt8} (hb : Src w 1 (.slice a l.length c) l.length (bytesV l)) (hl : l.length < 1000000000) :
    BackAsk w b1 b2 a c l wr := by
  refine (load_any wr _ l (hb.below h.bl) (by omega)).mono fun e w6 ⟨h6, he⟩ => ?_
  have h6d := below_drew h6
  have hV6 := h.below h6d
  cases hx : loadE l with
  | error x =>
    rw [hx] at he
    have := loadE_err hx
    exact .inl ⟨x, by omega, he, hV6.drew.fin hs ht hn hk⟩
  | ok r =>
    rw [hx] at he
    obtain ⟨v, L, he, hS, _⟩ := he
    have hlen := loadE_len hx
    have hbk := loadE_back hx
    have hS' : SRep w6.drew v ⟨r, []⟩ L := hS.below (below_drew (Below.refl _ w6))
    refine .inr ⟨v, he, conv_src (hb.below hV6.bl), (bytes_any w6.drew v ⟨r, []⟩ L hS' (by simp [St.size]; omega) (by show (bytesE r).length < _; rw [hbk]; omega)).mono fun e w7 ⟨a7, c7, he7, ho7, hb7⟩ => ?_⟩
    have ho7' : Own w7 5 1 (.slice a7 (bytesE r).length c7) (bytesE r).length (bytesV (bytesE r)) := ho7
    have hcv := run_conv_any ho7'
    rw [hbk] at hcv
    have he7' : e = .returned (.slice a7 (bytesE r).length c7) := he7
    rw [hbk] at he7'
    exact ⟨a7, _, c7, he7', hcv, conv_src (hb.below (hV6.below hb7).bl), (hV6.below hb7).drew.fin hs ht hn hk⟩

/-- ViewBack behind its loop. -/
def BackMid (w : World) (b1 b2 : Nat) (a : Option Addr) (c : Nat) (l : List UInt8) (wr : World) : Prop :=
  Calls Try.prog 17 #[.pointer (some ⟨b1, 0, none⟩)] wr fun e w1 => ∃ a1 n1 c1, e = .returned (.slice a1 n1 c1) ∧
    Calls Try.prog 16 #[.slice a1 n1 c1] w1 fun e w2 => ∃ u, e = .returned (.tuple #[.pointer (some ⟨u, 0, none⟩), .int .i64 0]) ∧
      Calls Try.prog 19 #[.pointer (some ⟨u, 0, none⟩)] w2 fun e w3 => ∃ a3 n3 c3, e = .returned (.slice a3 n3 c3) ∧
        Calls Try.prog 19 #[.pointer (some ⟨b1, 0, none⟩)] w3 fun e w4 => ∃ a4 n4 c4, e = .returned (.slice a4 n4 c4) ∧
          Calls Try.prog 18 #[.slice a3 n3 c3, .slice a4 n4 c4] w4 fun e w5 => e = .returned (.bool true) ∧ BackAsk w b1 b2 a c l w5

theorem VB.mid {w wr : World} {b1 b2 : Nat} {s t : St} (h : VB w b1 b2 s t wr) {n k : Nat} (hs : s.Lit n k) (ht : t.Lit n k) (hn : n < 1000000000) (hk : k < 10000000) {a : Option Addr} {c : Nat} {l : List UInt8} (hb : Src w 1 (.slice a l.length c) l.length (bytesV l)) (hl : l.length < 1000000000) :
    BackMid w b1 b2 a c l wr := by
  obtain ⟨L1, L2, h2, _⟩ := h.st
  have hz := hs.bytes hn hk
  have he0 := hs.back h2.srt hn hk
  refine (bytes_any wr b1 s L1 h2 hz.2 hz.1).mono fun e w1 ⟨a1, c1, he1, ho1, hb1⟩ => ⟨a1, _, c1, he1, ?_⟩
  refine (load_any w1 _ (bytesE s.ents) ho1.src (by omega)).mono fun e w2 ⟨hb2, he2⟩ => ?_
  rw [he0] at he2
  obtain ⟨u, Lu, he2, hSu, _⟩ := he2
  have hsz : s.ents.length < 1000000000000 := by have := hz.2; unfold St.size at this; omega
  refine ⟨u, he2, (all_any w2 u ⟨s.ents, []⟩ Lu hSu (by simp [St.size]; exact hsz)).mono fun e w3 ⟨v3, he3, hO3⟩ => ?_⟩
  obtain ⟨a3, c3, rfl, hp3⟩ := hO3.1.pairs
  have hb3 := hO3.2.2
  have hV3 := ((h.below hb1).below hb2).below hb3
  obtain ⟨L1', _, h2', _⟩ := hV3.st
  refine ⟨a3, _, c3, he3, (all_any w3 b1 s L1' h2' hz.2).mono fun e w4 ⟨v4, he4, hO4⟩ => ?_⟩
  obtain ⟨a4, c4, rfl, hp4⟩ := hO4.1.pairs
  have hb4 := hO4.2.2
  have hp34 : PairsAt w4 a3 s.ents := (hO3.1.frame (fun k hk => hb4.block k (hO3.1.lt k hk))).pairs.elim fun a' h => by
    obtain ⟨c', e, hp⟩ := h
    cases e; exact hp
  refine ⟨a4, _, c4, he4, (same_any w4 a3 a4 c3 c4 s.ents s.ents hp34 hp4 hsz).mono fun e w5 ⟨he5, n5, hw5⟩ => ?_⟩
  subst hw5
  have hb5 : Below w4.heap.size w4 (w4.drewN n5) := below_drewN (Below.refl _ w4) n5
  exact ⟨by rw [he5]; simp, ((hV3.below hb4).below hb5).ask hs ht hn hk hb hl⟩
end Go.Proofs.Ytgnnnjabgoadaaa

namespace Go.Proofs.Ytgnnnjabgoadaaa
open Go.RowKit

set_option maxRecDepth 100000 in
set_option maxHeartbeats 2000000 in
theorem back_long1 (w : World) (a1 : Option Addr) (n1 c1 : Nat) (a2 : Option Addr) (n2 c2 : Nat) (a3 : Option Addr) (n3 c3 : Nat) (g : 60 < n1) :
    Calls Try.prog 4 #[.slice a1 n1 c1, .slice a2 n2 c2, .slice a3 n3 c3] w fun e w' => e = .returned (.bool true) ∧ Below w.heap.size w w' := by
  have hd1 : decide ((60 : Int) < (n1 : Int)) = true := decide_eq_true (by omega)
  go_enter Try.func4, Try.ntmps4
  go_wp2_with (go_at_call 13; refine Calls.mono (lives37 w) ?_; rintro e w4 ⟨rfl, hb4⟩)
  go_ret
  exact ⟨rfl, hb4⟩

set_option maxRecDepth 100000 in
set_option maxHeartbeats 2000000 in
theorem back_long2 (w : World) (a1 : Option Addr) (n1 c1 : Nat) (a2 : Option Addr) (n2 c2 : Nat) (a3 : Option Addr) (n3 c3 : Nat) (g1 : n1 ≤ 60) (g : 60 < n2) :
    Calls Try.prog 4 #[.slice a1 n1 c1, .slice a2 n2 c2, .slice a3 n3 c3] w fun e w' => e = .returned (.bool true) ∧ Below w.heap.size w w' := by
  have hd1 : decide ((60 : Int) < (n1 : Int)) = false := decide_eq_false (by omega)
  have hd2 : decide ((60 : Int) < (n2 : Int)) = true := decide_eq_true (by omega)
  go_enter Try.func4, Try.ntmps4
  go_wp2_with (go_at_call 13; refine Calls.mono (lives37 w) ?_; rintro e w4 ⟨rfl, hb4⟩)
  go_ret
  exact ⟨rfl, hb4⟩

set_option maxRecDepth 100000 in
set_option maxHeartbeats 2000000 in
theorem back_long3 (w : World) (a1 : Option Addr) (n1 c1 : Nat) (a2 : Option Addr) (n2 c2 : Nat) (a3 : Option Addr) (n3 c3 : Nat) (g1 : n1 ≤ 60) (g2 : n2 ≤ 60) (g : 5000 < n3) :
    Calls Try.prog 4 #[.slice a1 n1 c1, .slice a2 n2 c2, .slice a3 n3 c3] w fun e w' => e = .returned (.bool true) ∧ Below w.heap.size w w' := by
  have hd1 : decide ((60 : Int) < (n1 : Int)) = false := decide_eq_false (by omega)
  have hd2 : decide ((60 : Int) < (n2 : Int)) = false := decide_eq_false (by omega)
  have hd3 : decide ((5000 : Int) < (n3 : Int)) = true := decide_eq_true (by omega)
  go_enter Try.func4, Try.ntmps4
  go_wp2_with (go_at_call 13; refine Calls.mono (lives37 w) ?_; rintro e w4 ⟨rfl, hb4⟩)
  go_ret
  exact ⟨rfl, hb4⟩

/-- Whichever is too long. -/
theorem back_long (w : World) (a1 : Option Addr) (n1 c1 : Nat) (a2 : Option Addr) (n2 c2 : Nat) (a3 : Option Addr) (n3 c3 : Nat) (g : ¬(n1 ≤ 60 ∧ n2 ≤ 60 ∧ n3 ≤ 5000)) :
    Calls Try.prog 4 #[.slice a1 n1 c1, .slice a2 n2 c2, .slice a3 n3 c3] w fun e w' => e = .returned (.bool true) ∧ Below w.heap.size w w' := by
  by_cases g1 : n1 ≤ 60
  · by_cases g2 : n2 ≤ 60
    · exact back_long3 w a1 n1 c1 a2 n2 c2 a3 n3 c3 g1 g2 (by omega)
    · exact back_long2 w a1 n1 c1 a2 n2 c2 a3 n3 c3 g1 (by omega)
  · exact back_long1 w a1 n1 c1 a2 n2 c2 a3 n3 c3 (by omega)
end Go.Proofs.Ytgnnnjabgoadaaa
