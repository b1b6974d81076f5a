/- What is proved here: the reference's store in memory as one statement (RAt, RRep): its entries in order, what can be undone; what its look-ups return. No condition. -/
import Derived.Test.YtgnnnjabgoadaaaStore
namespace Go.Proofs.Ytgnnnjabgoadaaa
open Go.RowKit

def pairV (l : List Ent) : List Value := l.flatMap fun x => [.string x.1, .string x.2]
theorem pairV_len (l : List Ent) : (pairV l).length = l.length * 2 := by
  unfold pairV
  induction l with
  | nil => rfl
  | cons x l ih => simp only [List.flatMap_cons, List.length_append, List.length_cons, List.length_nil] at ih ⊢; omega
theorem pairV_one (l : List Ent) : ∀ u ∈ pairV l, u.oneCell' = true := by
  intro u hu
  obtain ⟨x, _, hx⟩ := List.mem_flatMap.1 hu
  simp at hx
  rcases hx with rfl | rfl <;> rfl
theorem pairV_append (a b : List Ent) : pairV (a ++ b) = pairV a ++ pairV b := List.flatMap_append
theorem pairV_get (l : List Ent) (k : Nat) (x : Ent) (h : l[k]? = some x) : (pairV l)[k * 2]? = some (.string x.1) ∧ (pairV l)[k * 2 + 1]? = some (.string x.2) := by
  induction l generalizing k with
  | nil => simp at h
  | cons y l ih =>
    cases k with
    | zero => simp at h; subst h; simp [pairV]
    | succ k =>
      simp at h
      have := ih k h
      have e1 : (k + 1) * 2 = k * 2 + 1 + 1 := by omega
      rw [e1]
      have e2 : pairV (y :: l) = .string y.1 :: .string y.2 :: pairV l := rfl
      rw [e2]
      simpa using this
theorem pairV_take (l : List Ent) (k : Nat) : (pairV l).take (k * 2) = pairV (l.take k) := by
  induction l generalizing k with
  | nil => simp [pairV]
  | cons y l ih =>
    cases k with
    | zero => simp [pairV]
    | succ k =>
      have e1 : (k + 1) * 2 = k * 2 + 1 + 1 := by omega
      have e2 : pairV (y :: l) = .string y.1 :: .string y.2 :: pairV l := rfl
      have e3 : pairV (y :: l.take k) = .string y.1 :: .string y.2 :: pairV (l.take k) := rfl
      rw [e1, e2, List.take_succ_cons, List.take_succ_cons, List.take_succ_cons, ih, e3]
theorem pairV_drop (l : List Ent) (k : Nat) : (pairV l).drop (k * 2) = pairV (l.drop k) := by
  induction l generalizing k with
  | nil => simp [pairV]
  | cons y l ih =>
    cases k with
    | zero => simp
    | succ k =>
      have e1 : (k + 1) * 2 = k * 2 + 1 + 1 := by omega
      have e2 : pairV (y :: l) = .string y.1 :: .string y.2 :: pairV l := rfl
      rw [e1, e2, List.drop_succ_cons, List.drop_succ_cons, List.drop_succ_cons, ih]

/-- The reference's store in memory. -/
structure RAt (w : World) (b : Nat) (lv pv : Value) (s : St) : Prop where
  hd : w.heap[b]? = some (.cells #[lv, pv] 59 (0, 0))
  ls : Own w 39 2 lv s.ents.length (pairV s.ents)
  ps : Own w 131 3 pv s.past.length (s.past.flatMap wasCells)
  srt : Sorted s.ents
  nd : (b :: (lv.ownBlock.toList ++ pv.ownBlock.toList)).Nodup

def rids (b : Nat) (lv pv : Value) : List Nat := b :: (lv.ownBlock.toList ++ pv.ownBlock.toList)

/-- The reference's store in memory; L: its blocks. -/
def RRep (w : World) (b : Nat) (s : St) (L : List Nat) : Prop := ∃ lv pv, RAt w b lv pv s ∧ L = rids b lv pv

theorem RAt.lt {w : World} {b : Nat} {lv pv : Value} {s : St} (h : RAt w b lv pv s) : ∀ k ∈ rids b lv pv, k < w.heap.size := by
  intro k hk
  simp only [rids, List.mem_cons, List.mem_append] at hk
  rcases hk with rfl | hk | hk
  · exact lt_of_at h.hd
  · exact h.ls.lt k (by simpa using hk)
  · exact h.ps.lt k (by simpa using hk)

theorem RAt.frame {w w' : World} {b : Nat} {lv pv : Value} {s : St} (h : RAt w b lv pv s) (hb : ∀ k ∈ rids b lv pv, w'.heap[k]? = w.heap[k]?) : RAt w' b lv pv s :=
  ⟨by rw [hb b (by simp [rids])]; exact h.hd, h.ls.frame fun k hk => hb k (by simp [rids, hk]), h.ps.frame fun k hk => hb k (by simp [rids, hk]), h.srt, h.nd⟩

theorem RRep.lt {w : World} {b : Nat} {s : St} {L : List Nat} (h : RRep w b s L) : ∀ k ∈ L, k < w.heap.size := by
  obtain ⟨lv, pv, h, rfl⟩ := h; exact h.lt
theorem RRep.frame {w w' : World} {b : Nat} {s : St} {L : List Nat} (h : RRep w b s L) (hb : ∀ k ∈ L, w'.heap[k]? = w.heap[k]?) : RRep w' b s L := by
  obtain ⟨lv, pv, h, rfl⟩ := h; exact ⟨lv, pv, h.frame hb, rfl⟩
theorem RRep.fr {S : Nat → Prop} {w w' : World} {b : Nat} {s : St} {L : List Nat} (h : RRep w b s L) (hf : Fr S w w') (hn : ∀ k ∈ L, ¬ S k) : RRep w' b s L :=
  h.frame fun k hk => hf.block k (h.lt k hk) (hn k hk)
theorem RRep.below {w w' : World} {b : Nat} {s : St} {L : List Nat} (h : RRep w b s L) (hb : Below w.heap.size w w') : RRep w' b s L :=
  h.frame fun k hk => hb.block k (h.lt k hk)
theorem RRep.srt {w : World} {b : Nat} {s : St} {L : List Nat} (h : RRep w b s L) : Sorted s.ents := by
  obtain ⟨lv, pv, h, rfl⟩ := h; exact h.srt

theorem Own.form {w : World} {e : TypeId} {size : Nat} {v : Value} {n : Nat} {xs : List Value} (h : Own w e size v n xs) : ∃ a c, v = .slice a n c ∧ ∀ j u, xs[j]? = some u → ∃ g, a = some ⟨g, 0, none⟩ ∧ w.cell? ⟨g, j, none⟩ = some u := by
  rcases h.2 with ⟨rfl, rfl⟩ | ⟨g, c, cur, rfl, hg, _⟩
  · refine ⟨none, 0, rfl, fun j u hj => ?_⟩
    have := h.1
    rw [Nat.zero_mul] at this
    rw [List.eq_nil_of_length_eq_zero this] at hj
    cases hj
  · refine ⟨_, c, rfl, fun j u hj => ⟨g, rfl, ?_⟩⟩
    have := h.cells (g := g) rfl j u hj
    rwa [Addr.add_lit, Nat.zero_add] at this

/-- The store's entries as the walk reads them. -/
structure REnts (w : World) (b : Nat) (l : List Ent) (a : Option Addr) (c : Nat) : Prop where
  hd : w.cell? ⟨b, 0, none⟩ = some (.slice a l.length c)
  at0 : ∀ k x, l[k]? = some x → ∃ g, a = some ⟨g, 0, none⟩ ∧ w.cell? ⟨g, k * 2, none⟩ = some (.string x.1) ∧ w.cell? ⟨g, k * 2 + 1, none⟩ = some (.string x.2)

theorem RAt.ents {w : World} {b : Nat} {lv pv : Value} {s : St} (h : RAt w b lv pv s) : ∃ a c, lv = .slice a s.ents.length c ∧ REnts w b s.ents a c := by
  obtain ⟨a, c, rfl, hc⟩ := h.ls.form
  refine ⟨a, c, rfl, by rw [cell_of_row _ _ _ _ _ _ h.hd]; rfl, fun k x hk => ?_⟩
  obtain ⟨h1, h2⟩ := pairV_get _ k x hk
  obtain ⟨g, rfl, e1⟩ := hc _ _ h1
  obtain ⟨g', e, e2⟩ := hc _ _ h2
  cases e
  exact ⟨g, rfl, e1, e2⟩

set_option maxRecDepth 100000 in
set_option maxHeartbeats 2000000 in
theorem rplace_any (w : World) (b : Nat) (s : St) (lv pv : Value) (key : ByteArray) (h : RAt w b lv pv s) (hn : s.ents.length < 1000000000000) :
    Calls Try.prog 104 #[.pointer (some ⟨b, 0, none⟩), .string key] w fun e w' => e = .returned (.int .i64 (lb (s.ents.map Prod.fst) key)) ∧ w = w' := by
  obtain ⟨a, c, rfl, hE⟩ := h.ents
  have hle := lb_le (s.ents.map Prod.fst) key
  rw [List.length_map] at hle
  have hlb : ∀ i x, s.ents[i]? = some x → (KLt x.1 key ↔ i < lb (s.ents.map Prod.fst) key) := fun i x hi => by
    have hil : i < s.ents.length := (List.getElem?_eq_some_iff.1 hi).1
    rw [← lb_lt_iff h.srt.keys key i (by simpa using hil), List.getElem_map]
    have : s.ents[i] = x := (List.getElem?_eq_some_iff.1 hi).2
    rw [this]
  have hget : ∀ k, k < s.ents.length → ∃ x, s.ents[k]? = some x := fun k hk => ⟨_, List.getElem?_eq_getElem hk⟩
  have HLB := Lib.hid hlb
  have HGET := Lib.hid hget
  have HAT := Lib.hid hE.at0
  have hc := hE.hd
  generalize s.ents.length = n at *
  generalize lb (s.ents.map Prod.fst) key = m at *
  clear hlb hget h hE
  go_enter Try.func104, Try.ntmps104
  go_wp2_with fail
  go_loop [5] (fun i => ∃ k : Nat, i = .int .i64 k ∧ k ≤ m) (fun i => n - (intOf i).toNat)
  case atStart => exact ⟨0, rfl, by omega⟩
  case round =>
    obtain ⟨k, rfl, hk⟩ := hrel
    by_cases hlt : k < n
    · obtain ⟨x, hx⟩ := HGET.out k hlt
      obtain ⟨g, rfl, c0, _⟩ := HAT.out k x hx
      have hl := HLB.out k x hx
      by_cases hk1 : KLt x.1 key
      · have hb : Op.bytesLess x.1.toList key.toList = true := by rw [bytesLess_KLt]; simpa using hk1
        have hkm : k < m := hl.1 hk1
        clear hl hk1 hx
        generalize x.1 = y at *
        go_wp2
        go_round
        case rel => exact ⟨k + 1, by go_num, by omega⟩
        case measure => simp [intOf]; omega
      · have hb : Op.bytesLess x.1.toList key.toList = false := by rw [bytesLess_KLt]; simpa using hk1
        have hkm : ¬ k < m := fun e => hk1 (hl.2 e)
        obtain rfl : k = m := by omega
        clear hl hk1 hx
        generalize x.1 = y at *
        go_wp2
        go_ret
        exact ⟨rfl, rfl⟩
    · obtain rfl : k = m := by omega
      go_wp2
      go_ret
      exact ⟨rfl, rfl⟩


set_option maxRecDepth 100000 in
set_option maxHeartbeats 2000000 in
theorem rget_at (w : World) (b : Nat) (s : St) (lv pv : Value) (key : ByteArray) (h : RAt w b lv pv s) (hn : s.ents.length < 1000000000000) :
    Calls Try.prog 93 #[.pointer (some ⟨b, 0, none⟩), .string key] w fun e w' => e = .returned (.tuple #[.string (s.val key), .bool (getE s.ents key).isSome]) ∧ w = w' := by
  have HP := Lib.hid (rplace_any w b s lv pv key h hn)
  obtain ⟨a, c, rfl, hE⟩ := h.ents
  have hle := lb_le (s.ents.map Prod.fst) key
  rw [List.length_map] at hle
  have HAT := Lib.hid hE.at0
  have hc := hE.hd
  cases hg : getE s.ents key with
  | some v =>
    have hm := getE_mem hg
    obtain ⟨hlt, hat⟩ := lb_at h.srt.keys (List.mem_map.2 ⟨_, hm, rfl⟩ : key ∈ s.ents.map Prod.fst)
    obtain ⟨x, hx⟩ : ∃ x, s.ents[lb (s.ents.map Prod.fst) key]? = some x := ⟨_, List.getElem?_eq_getElem (by simpa using hlt)⟩
    have hx1 : x.1 = key := by
      rw [List.getElem_map] at hat
      rw [← hat]
      have := (List.getElem?_eq_some_iff.1 hx).2
      rw [this]
    have hx2 : x.2 = v := by
      have := getE_of_mem h.srt (k := x.1) (v := x.2) (List.mem_of_getElem? hx)
      rw [hx1, hg] at this
      exact (Option.some.inj this).symm
    obtain ⟨g, rfl, c0, c1⟩ := HAT.out _ x hx
    have hv : s.val key = v := by unfold St.val; rw [hg]; rfl
    rw [hv]
    rw [hx1] at c0
    rw [hx2] at c1
    have hlt' : lb (s.ents.map Prod.fst) key < s.ents.length := by simpa using hlt
    have hkk : (key.toList == key.toList) = true := by simp
    generalize s.ents.length = n at *
    generalize lb (s.ents.map Prod.fst) key = m at *
    clear hx hx1 hx2 hg hm hat hv hle hlt h hE HAT
    go_enter Try.func93, Try.ntmps93
    go_wp2_with (go_at_call 104; refine HP.out.mono ?_; rintro e w' ⟨rfl, rfl⟩)
    go_ret2
    exact ⟨rfl, rfl⟩
  | none =>
    have hv : s.val key = emptyB := by unfold St.val; rw [hg]; rfl
    rw [hv]
    have hno : ∀ x, s.ents[lb (s.ents.map Prod.fst) key]? = some x → x.1 ≠ key := fun x hx e => by
      rw [getE_none] at hg
      exact hg (List.mem_map.2 ⟨x, List.mem_of_getElem? hx, e⟩)
    have HNO := Lib.hid hno
    have hget : lb (s.ents.map Prod.fst) key < s.ents.length → ∃ x, s.ents[lb (s.ents.map Prod.fst) key]? = some x := fun hk => ⟨_, List.getElem?_eq_getElem hk⟩
    have HGET := Lib.hid hget
    generalize s.ents.length = n at *
    generalize lb (s.ents.map Prod.fst) key = m at *
    unfold emptyB
    clear hno hget hg hv h hE
    by_cases hlt : m < n
    · obtain ⟨x, hx⟩ := HGET.out hlt
      obtain ⟨g, rfl, c0, _⟩ := HAT.out _ x hx
      have hne := HNO.out x hx
      have hb : (x.1.toList == key.toList) = false := by rw [toList_beq]; simpa using hne
      clear hne hx
      generalize x.1 = y at *
      go_enter Try.func93, Try.ntmps93
      go_wp2_with (go_at_call 104; refine HP.out.mono ?_; rintro e w' ⟨rfl, rfl⟩)
      go_ret2
      exact ⟨rfl, rfl⟩
    · go_enter Try.func93, Try.ntmps93
      go_wp2_with (go_at_call 104; refine HP.out.mono ?_; rintro e w' ⟨rfl, rfl⟩)
      go_ret2
      exact ⟨rfl, rfl⟩

theorem rget_any (w : World) (b : Nat) (s : St) (L : List Nat) (key : ByteArray) (h : RRep w b s L) (hn : s.ents.length < 1000000000000) :
    Calls Try.prog 93 #[.pointer (some ⟨b, 0, none⟩), .string key] w fun e w' => e = .returned (.tuple #[.string (s.val key), .bool (getE s.ents key).isSome]) ∧ w = w' := by
  obtain ⟨lv, pv, h, rfl⟩ := h
  exact rget_at w b s lv pv key h hn

end Go.Proofs.Ytgnnnjabgoadaaa
