/- What is proved here: a store's Settle and Mark. No condition. plain facts on entries read from bytes. No program is named. No condition. view.Load: the store of any bytes, or the first that is wrong. Its condition: fewer than 10^11 bytes. the walk of view.Load. Its condition: fewer than 10^11 bytes. -/
import Derived.Test.YtgnnnjabgoadaaaStore
import Derived.Test.YtgnnnjabgoadaaaOct
import Derived.Test.YtgnnnjabgoadaaaCell
namespace Go.Proofs.Ytgnnnjabgoadaaa
open Go.RowKit

set_option maxRecDepth 100000 in
set_option maxHeartbeats 1000000 in
theorem settle_any (w : World) (b : Nat) (s : St) (L : List Nat) (h : SRep w b s L) : Calls Try.prog 44 #[.pointer (some ⟨b, 0, none⟩)] w (RetSt w b L (.tuple #[]) ⟨s.ents, []⟩) := by
  have hc0 := h.cell0
  obtain ⟨mb, es, clk, bv, pv, bs, h, rfl⟩ := h
  obtain ⟨_, _, _, hc3, hfz⟩ := head_cell h.hd
  have hf3 := hfz 3
  have HE : Hid (RetSt w b (sids b mb bv pv bs) (.tuple #[]) ⟨s.ents, []⟩ (.returned (.tuple #[])) (w.setCell ⟨b, 3, none⟩ (.slice none 0 0))) := by
    have hF : Fr (fun k => k = b) w (w.setCell ⟨b, 3, none⟩ (.slice none 0 0)) := (Fr.refl (fun k => k = b) w).setCell ⟨b, 3, none⟩ _ (.inr rfl)
    have hnd := h.nd
    have hsub : ∀ k ∈ sids b mb bv (.slice none 0 0) bs, k ∈ sids b mb bv pv bs := by
      intro k hk
      simp only [sids, List.mem_cons, List.mem_append, Value.ownBlock] at hk ⊢
      rcases hk with h1 | h1 | h1 | h1
      · exact .inl h1
      · exact .inr (.inl h1)
      · simp at h1
      · exact .inr (.inr (.inr h1))
    have hnb : ∀ k ∈ kids bv bs, k ≠ b := fun k hk e => by subst e; simp [sids, hk] at hnd
    have hmb : mb ≠ b := fun e => by subst e; simp [sids] at hnd
    refine ⟨rfl, sids b mb bv (.slice none 0 0) bs, ⟨mb, es, clk, bv, .slice none 0 0, bs, ⟨head_set3 h.hd _, ?_, ?_, Own.nil _ _ _, h.me, h.fl, h.srt, ?_⟩, rfl⟩, ⟨hF.mono (fun k _ hk => by simp [sids, hk]), fun k hk => .inl (hsub k hk)⟩⟩
    · rw [hF.block mb (lt_of_at h.mp) hmb]; exact h.mp
    · exact h.ks.fr hF hnb
    · refine List.Nodup.sublist ?_ hnd
      simp only [sids, Value.ownBlock, Option.toList_none, List.nil_append]
      exact List.Sublist.cons_cons _ (List.Sublist.cons_cons _ (List.sublist_append_right _ _))
  generalize RetSt w b (sids b mb bv pv bs) (.tuple #[]) ⟨s.ents, []⟩ = R at *
  clear h hfz
  go_enter Try.func44, Try.ntmps44
  go_wp2_with (go_at_call 37; refine (is_at _ _ _ hc0).mono ?_; rintro e w' ⟨rfl, rfl⟩)
  go_end0
  exact HE.out

set_option maxRecDepth 100000 in
set_option maxHeartbeats 1000000 in
theorem mark_any (w : World) (b : Nat) (s : St) (L : List Nat) (h : SRep w b s L) : Calls Try.prog 21 #[.pointer (some ⟨b, 0, none⟩)] w fun e w' => e = .returned (.int .i64 s.past.length) ∧ w = w' := by
  have hc0 := h.cell0
  obtain ⟨mb, es, clk, bv, pv, bs, h, rfl⟩ := h
  obtain ⟨_, _, _, hc3, _⟩ := head_cell h.hd
  obtain ⟨a, c, hp⟩ : ∃ a c, pv = .slice a s.past.length c := by
    rcases h.ps.2 with ⟨h1, h2⟩ | ⟨g, c, cur, h1, _⟩
    · exact ⟨none, 0, by rw [h1, h2]⟩
    · exact ⟨_, c, h1⟩
  rw [hp] at hc3
  generalize s.past.length = n at *
  clear h hp
  go_enter Try.func21, Try.ntmps21
  go_wp2_with (go_at_call 37; refine (is_at _ _ _ hc0).mono ?_; rintro e w' ⟨rfl, rfl⟩)
  go_ret
  exact ⟨rfl, rfl⟩
end Go.Proofs.Ytgnnnjabgoadaaa

namespace Go.Proofs.Ytgnnnjabgoadaaa

/-- n entries of some bytes, each behind the last key; what is left behind them must be nothing. -/
def loadN : Nat → List UInt8 → ByteArray → List Ent → Except Nat (List Ent)
  | 0, l, _, acc => if l = [] then .ok acc else .error 4
  | n + 1, l, last, acc =>
    match textL l 1073741824 with
    | .error e => .error e
    | .ok (k, r) =>
      if ¬ KLt last ⟨k.toArray⟩ then .error 4 else
        match textL r 1073741824 with
        | .error e => .error e
        | .ok (v, r2) => loadN n r2 ⟨k.toArray⟩ (acc ++ [(⟨k.toArray⟩, ⟨v.toArray⟩)])

def loadE (l : List UInt8) : Except Nat (List Ent) :=
  match varL l 1073741824 with
  | .error e => .error e
  | .ok (n, r) => loadN n r ⟨#[]⟩ []

theorem putE_end : ∀ {l : List Ent} {k v : ByteArray}, (∀ x ∈ l, KLt x.1 k) → putE l k v = l ++ [(k, v)]
  | [], _, _, _ => rfl
  | (a, b) :: r, k, v, h => by
    have h1 := h (a, b) (by simp)
    rw [putE, if_pos h1, putE_end (fun x hx => h x (by simp [hx]))]; rfl

theorem getE_end {l : List Ent} {k : ByteArray} (h : ∀ x ∈ l, KLt x.1 k) : getE l k = none := by
  rw [getE_none]
  intro hm
  obtain ⟨x, hx, rfl⟩ := List.mem_map.1 hm
  exact KLt.irrefl _ (h x hx)

theorem set_end {s : St} {k v : ByteArray} (h : ∀ x ∈ s.ents, KLt x.1 k) : (s.set k v).ents = s.ents ++ [(k, v)] := by
  unfold St.set
  rw [if_neg (by rw [getE_end h]; simp)]
  exact putE_end h

theorem lt_nil_ne {last k : ByteArray} (h : KLt last k) : k ≠ emptyB := by
  intro e
  subst e
  unfold KLt emptyB at h
  simp at h
end Go.Proofs.Ytgnnnjabgoadaaa

namespace Go.Proofs.Ytgnnnjabgoadaaa
open Go.RowKit

/-- Load under way: the source at bo, the store at bs. -/
def LoadAt (w : World) (bo g bs : Nat) (l : List UInt8) (e : Int) (s : St) (w1 : World) : Prop :=
  Below w.heap.size w w1 ∧ w.heap.size ≤ bo ∧ OctRep w1 bo g l e ∧ bo < w1.heap.size ∧ g < w1.heap.size ∧ ∃ L, SRep w1 bs s L ∧ (∀ k ∈ L, w.heap.size ≤ k) ∧ bo ∉ L ∧ g ∉ L

theorem LoadAt.oct {w w1 w2 : World} {bo g bs : Nat} {l l' : List UInt8} {e e' : Int} {s : St} (h : LoadAt w bo g bs l e s w1) (hF : Fr (fun k => k = bo) w1 w2) (hO : OctRep w2 bo g l' e') : LoadAt w bo g bs l' e' s w2 := by
  obtain ⟨h1, h2, h3, h4, h5, L, h6, h7, h8, h9⟩ := h
  refine ⟨⟨hF.os.trans h1.os, hF.tape.trans h1.tape, hF.output.trans h1.output, Nat.le_trans h1.size hF.size, fun k hk => (hF.block k (Nat.lt_of_lt_of_le hk h1.size) (fun e => by omega)).trans (h1.block k hk)⟩, h2, hO, Nat.lt_of_lt_of_le h4 hF.size, Nat.lt_of_lt_of_le h5 hF.size, L, h6.fr hF (fun k hk e => h8 (e ▸ hk)), h7, h8, h9⟩

theorem LoadAt.set {w w1 w2 : World} {bo g bs : Nat} {l : List UInt8} {e : Int} {s s' : St} {v : Value} {en : Ending} (h : LoadAt w bo g bs l e s w1) {L : List Nat} (hL : SRep w1 bs s L ∧ (∀ k ∈ L, w.heap.size ≤ k) ∧ bo ∉ L ∧ g ∉ L) (hR : RetSt w1 bs L v s' en w2) : LoadAt w bo g bs l e s' w2 := by
  obtain ⟨h1, h2, ⟨a, c, h3⟩, h4, h5, _⟩ := h
  obtain ⟨h6, h7, h8, h9⟩ := hL
  obtain ⟨_, L', hS, hT⟩ := hR
  have hnew : ∀ k, k < w1.heap.size → k ∉ L → k ∉ L' := fun k hk hn hm => by
    rcases hT.own k hm with h | h
    · exact hn h
    · omega
  refine ⟨⟨hT.fr.os.trans h1.os, hT.fr.tape.trans h1.tape, hT.fr.output.trans h1.output, Nat.le_trans h1.size hT.fr.size, fun k hk => (hT.fr.block k (Nat.lt_of_lt_of_le hk h1.size) (fun hm => by have := h7 k hm; omega)).trans (h1.block k hk)⟩, h2, ⟨a, c, ?_, ?_, h3.cap, h3.ne, h3.dat⟩, Nat.lt_of_lt_of_le h4 hT.fr.size, Nat.lt_of_lt_of_le h5 hT.fr.size, L', hS, fun k hk => ?_, hnew bo h4 h8, hnew g h5 h9⟩
  · exact hT.fr.at h3.hd h8
  · refine h3.src.to fun x u hx hy => ?_
    have hk := h3.dat _ hy
    rw [World.cell?_of_block (w := w1) (hT.fr.block x.block (World.block_lt_of_cell? w1 x hx) (by rw [hk]; exact h9))]
    exact hx
  · rcases hT.own k hk with h | h
    · exact h7 k h
    · exact Nat.le_trans h1.size h

theorem LoadAt.store {w w1 : World} {bo g bs : Nat} {l : List UInt8} {e : Int} {s : St} (h : LoadAt w bo g bs l e s w1) : ∃ L, SRep w1 bs s L ∧ (∀ k ∈ L, w.heap.size ≤ k) ∧ bo ∉ L ∧ g ∉ L := by
  obtain ⟨_, _, _, _, _, h⟩ := h; exact h

/-- What Load returns. -/
def RetLoad (w : World) (R : Except Nat (List Ent)) (e : Ending) (w' : World) : Prop := Below w.heap.size w w' ∧
  match R with
  | .ok l => ∃ b L, e = .returned (.tuple #[.pointer (some ⟨b, 0, none⟩), .int .i64 0]) ∧ SRep w' b ⟨l, []⟩ L ∧ ∀ k ∈ L, w.heap.size ≤ k
  | .error x => e = .returned (.tuple #[.pointer none, .int .i64 x])

/-- Where Load's loop stands: n entries are still to come. -/
def LoadTo (w : World) (bo g bs : Nat) (R : Except Nat (List Ent)) (tot n : Nat) (last : ByteArray) (wr : World) : Prop :=
  ∃ l e s, LoadAt w bo g bs l e s wr ∧ l.length < 100000000000 ∧ s.size ≤ 2 * (tot - n) ∧
    ((e = 0 ∧ R = loadN n l last s.ents ∧ (∀ x ∈ s.ents, ¬ KLt last x.1)) ∨ (∃ x : Nat, e = x ∧ x ≠ 0 ∧ R = .error x))

theorem except_cases {α : Type} (R : Except Nat α) : (∃ x, R = .ok x) ∨ ∃ x, R = .error x := by
  cases R with
  | ok x => exact .inl ⟨x, rfl⟩
  | error x => exact .inr ⟨x, rfl⟩

theorem below_of_frb {w w1 w2 : World} {bo : Nat} (h : Below w.heap.size w w1) (hb : w.heap.size ≤ bo) (hF : Fr (fun k => k = bo) w1 w2) : Below w.heap.size w w2 :=
  ⟨hF.os.trans h.os, hF.tape.trans h.tape, hF.output.trans h.output, Nat.le_trans h.size hF.size, fun k hk => (hF.block k (Nat.lt_of_lt_of_le hk h.size) (fun e => by omega)).trans (h.block k hk)⟩

/-- The loop is over: what End tells, and what is returned. -/
theorem LoadTo.done {w : World} {bo g bs : Nat} {R : Except Nat (List Ent)} {tot : Nat} {last : ByteArray} {wr : World} (h : LoadTo w bo g bs R tot 0 last wr ∨ ∃ n, LoadTo w bo g bs R tot n last wr ∧ ∃ x : Nat, R = .error x ∧ x ≠ 0 ∧ ∃ l s, LoadAt w bo g bs l x s wr) :
    ∃ q : Int, (Calls Try.prog 43 #[.pointer (some ⟨bo, 0, none⟩)] wr fun e w' => e = .returned (.int .i64 q) ∧ (q = 0 → Calls Try.prog 44 #[.pointer (some ⟨bs, 0, none⟩)] w' fun e w2 => e = .returned (.tuple #[]) ∧ RetLoad w R (.returned (.tuple #[.pointer (some ⟨bs, 0, none⟩), .int .i64 0])) w2) ∧ (q ≠ 0 → RetLoad w R (.returned (.tuple #[.pointer none, .int .i64 q])) w')) := by
  have key : ∀ l (e : Int) s, LoadAt w bo g bs l e s wr → (endE l e = 0 → R = .ok s.ents) → (endE l e ≠ 0 → ∃ x : Nat, endE l e = x ∧ R = .error x) → ∃ q : Int, (Calls Try.prog 43 #[.pointer (some ⟨bo, 0, none⟩)] wr fun e w' => e = .returned (.int .i64 q) ∧ (q = 0 → Calls Try.prog 44 #[.pointer (some ⟨bs, 0, none⟩)] w' fun e w2 => e = .returned (.tuple #[]) ∧ RetLoad w R (.returned (.tuple #[.pointer (some ⟨bs, 0, none⟩), .int .i64 0])) w2) ∧ (q ≠ 0 → RetLoad w R (.returned (.tuple #[.pointer none, .int .i64 q])) w')) := fun l e s hA h0 h1 => by
    obtain ⟨hb, hbo, hO, _, _, L, hS, hL, hbL, _⟩ := hA
    refine ⟨endE l e, (oct_end wr bo g l e hO).mono fun en w' ⟨he, hF⟩ => ⟨he, fun hq => ?_, fun hq => ?_⟩⟩
    · have hb' := below_of_frb hb hbo hF
      refine (settle_any w' bs s L (hS.fr hF (fun k hk e => hbL (e ▸ hk)))).mono fun en w2 ⟨he2, L', h4, h5⟩ => ⟨he2, ?_⟩
      rw [h0 hq]
      refine ⟨?_, bs, L', rfl, h4, fun k hk => ?_⟩
      · exact ⟨h5.fr.os.trans hb'.os, h5.fr.tape.trans hb'.tape, h5.fr.output.trans hb'.output, Nat.le_trans hb'.size h5.fr.size, fun k hk => (h5.fr.block k (Nat.lt_of_lt_of_le hk hb'.size) (fun hm => by have := hL k hm; omega)).trans (hb'.block k hk)⟩
      · rcases h5.own k hk with h6 | h6
        · exact hL k h6
        · exact Nat.le_trans hb'.size h6
    · obtain ⟨x, hx, hR⟩ := h1 hq
      rw [hR, hx]
      exact ⟨below_of_frb hb hbo hF, rfl⟩
  rcases h with ⟨l, e, s, hA, _, _, ⟨rfl, hR, _⟩ | ⟨x, rfl, hx, hR⟩⟩ | ⟨n, _, x, hR, hx, l, s, hA⟩
  · refine key l 0 s hA (fun hq => ?_) (fun hq => ?_)
    · rw [hR]
      unfold endE at hq
      rw [if_pos rfl] at hq
      by_cases hl : l = []
      · rw [loadN, if_pos hl]
      · rw [if_neg hl] at hq; omega
    · unfold endE at hq ⊢
      rw [if_pos rfl] at hq ⊢
      by_cases hl : l = []
      · rw [if_pos hl] at hq; omega
      · rw [if_neg hl]
        exact ⟨4, rfl, by rw [hR, loadN, if_neg hl]⟩
  · have he : endE l (x : Int) = x := by unfold endE; rw [if_neg (by omega)]
    exact key l x s hA (fun hq => by rw [he] at hq; omega) (fun _ => ⟨x, he, hR⟩)
  · have he : endE l (x : Int) = x := by unfold endE; rw [if_neg (by omega)]
    exact key l x s hA (fun hq => by rw [he] at hq; omega) (fun _ => ⟨x, he, hR⟩)

theorem ba_arr (k : List UInt8) : (⟨k.toArray⟩ : ByteArray).data.toList = k := rfl

/-- One round of Load: the key is read; then an error ends the loop, or a key out of order the call, or the entry is put in. -/
theorem LoadTo.round {w : World} {bo g bs : Nat} {R : Except Nat (List Ent)} {tot n : Nat} {last : ByteArray} {wr : World} (h : LoadTo w bo g bs R tot (n + 1) last wr) (htot : tot ≤ 1073741824) (hn : n + 1 ≤ tot) :
    Calls Try.prog 41 #[.pointer (some ⟨bo, 0, none⟩), .int .i64 1073741824] wr fun en w1 => ∃ a m c k, en = .returned (.slice a m c) ∧ (convert 36 9 (.slice a m c)).run Try.prog w1 = .ok (.string k) w1 ∧ ∃ e : Int,
      (Calls Try.prog 42 #[.pointer (some ⟨bo, 0, none⟩)] w1 fun en w' => en = .returned (.int .i64 e) ∧ w1 = w') ∧
      ((e ≠ 0 ∧ LoadTo w bo g bs R tot (n + 1) last w1 ∧ ∃ x : Nat, R = .error x ∧ x ≠ 0 ∧ ∃ l s, LoadAt w bo g bs l x s w1) ∨
       (e = 0 ∧ ¬ KLt last k ∧ RetLoad w R (.returned (.tuple #[.pointer none, .int .i64 4])) w1) ∨
       (e = 0 ∧ KLt last k ∧ Calls Try.prog 41 #[.pointer (some ⟨bo, 0, none⟩), .int .i64 1073741824] w1 fun en w2 => ∃ a m c v, en = .returned (.slice a m c) ∧ (convert 36 9 (.slice a m c)).run Try.prog w2 = .ok (.string v) w2 ∧
          Calls Try.prog 15 #[.pointer (some ⟨bs, 0, none⟩), .string k, .string v] w2 fun en w3 => en = .returned (.int .i64 0) ∧ LoadTo w bo g bs R tot n k w3)) := by
  obtain ⟨l, e, s, hA, hl, hs, ⟨rfl, hR, hlast⟩ | ⟨x, rfl, hx, hR⟩⟩ := h
  · refine (oct_text wr bo g l 1073741824 hA.2.2.1 (by omega)).mono fun en w1 ⟨hF, a, m, c, hen, hr⟩ => ?_
    rcases except_cases (textL l 1073741824) with ⟨⟨k, r⟩, ht⟩ | ⟨x, ht⟩
    · rw [ht] at hr
      obtain ⟨hcv, hO⟩ := hr
      have hA1 := hA.oct hF hO
      have hlen := textL_len ht
      refine ⟨a, m, c, ⟨k.toArray⟩, hen, hcv, 0, oct_err w1 bo g r 0 hO, ?_⟩
      by_cases hlt : KLt last ⟨k.toArray⟩
      · refine .inr (.inr ⟨rfl, hlt, ?_⟩)
        refine (oct_text w1 bo g r 1073741824 hO (by omega)).mono fun en w2 ⟨hF2, a, m, c, hen, hr⟩ => ?_
        have hks : ∀ x ∈ s.ents, KLt x.1 ⟨k.toArray⟩ := fun x hx => KLt.of_not (hlast x hx) hlt
        have hsz : s.size < 1000000000000 := by omega
        have hkey : ∀ (v : ByteArray) (r2 : List UInt8) (e2 : Int), LoadAt w bo g bs r2 e2 s w2 → r2.length < 100000000000 → (e2 = 0 → R = loadN n r2 ⟨k.toArray⟩ (s.ents ++ [(⟨k.toArray⟩, v)])) → (e2 ≠ 0 → ∃ x : Nat, e2 = x ∧ R = .error x) →
            Calls Try.prog 15 #[.pointer (some ⟨bs, 0, none⟩), .string ⟨k.toArray⟩, .string v] w2 fun en w3 => en = .returned (.int .i64 0) ∧ LoadTo w bo g bs R tot n ⟨k.toArray⟩ w3 := fun v r2 e2 hA2 hl2 h0 h1 => by
          obtain ⟨L, hL⟩ := hA2.store
          refine (set_any w2 bs s L ⟨k.toArray⟩ v hL.1 (lt_nil_ne hlt) hsz).mono fun en w3 hset => ⟨hset.1, r2, e2, s.set ⟨k.toArray⟩ v, hA2.set hL hset, hl2, ?_, ?_⟩
          · have := s.set_size ⟨k.toArray⟩ v; omega
          · by_cases he2 : e2 = 0
            · refine .inl ⟨he2, by rw [set_end hks]; exact h0 he2, fun x hx => ?_⟩
              rw [set_end hks] at hx
              rcases List.mem_append.1 hx with hx | hx
              · exact (hks x hx).asymm
              · rw [List.mem_singleton.1 hx]; exact KLt.irrefl _
            · obtain ⟨x, hx, hRx⟩ := h1 he2
              exact .inr ⟨x, hx, by omega, hRx⟩
        rcases except_cases (textL r 1073741824) with ⟨⟨v, r2⟩, ht2⟩ | ⟨x, ht2⟩
        · rw [ht2] at hr
          have hlen2 := textL_len ht2
          refine ⟨a, m, c, ⟨v.toArray⟩, hen, hr.1, hkey _ r2 0 (hA1.oct hF2 hr.2) (by omega) (fun _ => ?_) (fun h => absurd rfl h)⟩
          rw [hR, loadN, ht]
          simp only [hlt, not_true_eq_false, if_false, ht2]
        · rw [ht2] at hr
          refine ⟨a, m, c, ⟨#[]⟩, hen, hr.1, hkey _ [] x (hA1.oct hF2 hr.2) (by simp) (fun h => ?_) (fun _ => ⟨x, rfl, ?_⟩)⟩
          · rcases textL_err ht2 with h | h | h <;> omega
          · rw [hR, loadN, ht]
            simp only [hlt, not_true_eq_false, if_false, ht2]
      · refine .inr (.inl ⟨rfl, hlt, ?_⟩)
        have hRe : R = .error 4 := by
          rw [hR, loadN, ht]
          simp only [hlt, not_false_eq_true, if_true]
        rw [hRe]
        exact ⟨hA1.1, rfl⟩
    · rw [ht] at hr
      have hA1 := hA.oct hF hr.2
      have hRe : R = .error x := by rw [hR, loadN, ht]
      have hx0 : x ≠ 0 := by rcases textL_err ht with h | h | h <;> omega
      exact ⟨a, m, c, ⟨#[]⟩, hen, hr.1, x, oct_err w1 bo g [] x hr.2, .inl ⟨by omega, ⟨[], x, s, hA1, by simp, hs, .inr ⟨x, rfl, hx0, hRe⟩⟩, x, hRe, hx0, [], s, hA1⟩⟩
  · refine (oct_text_err wr bo g l 1073741824 x (by omega) hA.2.2.1).mono fun en w1 ⟨hen, hw⟩ => ?_
    subst hw
    exact ⟨none, 0, 0, ⟨#[]⟩, hen, run_conv_nil wr 0, x, oct_err wr bo g l x hA.2.2.1, .inl ⟨by omega, ⟨l, x, s, hA, hl, hs, .inr ⟨x, rfl, hx, hR⟩⟩, x, hR, hx, l, s, hA⟩⟩
end Go.Proofs.Ytgnnnjabgoadaaa

namespace Go.Proofs.Ytgnnnjabgoadaaa
open Go.RowKit

theorem load_var {w w2 : World} {bo g bs : Nat} {l : List UInt8} (hA : LoadAt w bo g bs l 0 emptySt w2) (hl : l.length < 100000000000) :
    Calls Try.prog 40 #[.pointer (some ⟨bo, 0, none⟩), .int .i64 1073741824] w2 fun en w3 => ∃ tot : Nat, en = .returned (.int .i64 tot) ∧ tot ≤ 1073741824 ∧ LoadTo w bo g bs (loadE l) tot tot ⟨#[]⟩ w3 := by
  refine (oct_var w2 bo g l 1073741824 hA.2.2.1 (by omega)).mono fun en w3 ⟨hF, hr⟩ => ?_
  cases hv : varL l 1073741824 with
  | error x =>
    rw [hv] at hr
    refine ⟨0, hr.1, by omega, [], x, emptySt, hA.oct hF hr.2, by simp, by simp [emptySt, St.size], .inr ⟨x, rfl, ?_, ?_⟩⟩
    · rcases varL_err hv with h | h | h <;> omega
    · unfold loadE; rw [hv]
  | ok p =>
    obtain ⟨n, r⟩ := p
    rw [hv] at hr
    obtain ⟨hlen, hle⟩ := varL_len hv
    refine ⟨n, hr.1, hle, r, 0, emptySt, hA.oct hF hr.2, by omega, by simp [emptySt, St.size], .inl ⟨rfl, ?_, by simp [emptySt]⟩⟩
    unfold loadE; rw [hv]; rfl

theorem load_start {w w1 : World} {bo g : Nat} {l : List UInt8} (hO : OctRep w1 bo g l 0) (hb : Below w.heap.size w w1) (hbo : w.heap.size ≤ bo) (h1 : bo < w1.heap.size) (h2 : g < w1.heap.size) (hl : l.length < 100000000000) :
    Calls Try.prog 14 #[] w1 fun en w2 => ∃ bs, en = .returned (.pointer (some ⟨bs, 0, none⟩)) ∧
      Calls Try.prog 40 #[.pointer (some ⟨bo, 0, none⟩), .int .i64 1073741824] w2 fun en w3 => ∃ tot : Nat, en = .returned (.int .i64 tot) ∧ tot ≤ 1073741824 ∧ LoadTo w bo g bs (loadE l) tot tot ⟨#[]⟩ w3 := by
  refine (new_any w1).mono fun en w2 ⟨bs, L, he, hS, hF, hL⟩ => ⟨bs, he, load_var ?_ hl⟩
  have hB : Below w1.heap.size w1 w2 := ⟨hF.os, hF.tape, hF.output, hF.size, fun k hk => hF.block k hk (fun h => h)⟩
  have hsz := hb.size
  exact ⟨⟨hF.os.trans hb.os, hF.tape.trans hb.tape, hF.output.trans hb.output, Nat.le_trans hsz hF.size, fun k hk => (hF.block k (by omega) (fun h => h)).trans (hb.block k hk)⟩, hbo, hO.below hB, by have := hF.size; omega, by have := hF.size; omega, L, hS, fun k hk => Nat.le_trans hsz (hL k hk), fun h => by have := hL _ h; omega, fun h => by have := hL _ h; omega⟩

theorem leq_KLt (a b : ByteArray) : (Op.bytesLess a.toList b.toList || a.toList == b.toList) = !decide (KLt b a) := by
  rw [bytesLess_KLt, toList_beq]
  by_cases h : KLt b a
  · have h1 := h.asymm
    have h2 := h.ne
    simp [h, h1, h2.symm]
  · by_cases h2 : KLt a b
    · simp [h, h2]
    · have := KLt.eq (a := a) (b := b)
      simp [h, h2]
      first | exact this h2 h | exact this h h2 | exact (this h h2).symm | exact (this h2 h).symm

set_option maxRecDepth 100000 in
set_option maxHeartbeats 4000000 in
theorem load_any (w : World) (y : Value) (l : List UInt8) (h : Src w 1 y l.length (bytesV l)) (hl : l.length < 100000000000) : Calls Try.prog 16 #[y] w (RetLoad w (loadE l)) := by
  have HRD := Lib.hid (oct_read w y l h (by omega))
  have HST : Hid (∀ bo g w1, OctRep w1 bo g l 0 → Below w.heap.size w w1 → w.heap.size ≤ bo → bo < w1.heap.size → g < w1.heap.size → _) := fun bo g w1 a b c d e => load_start (w := w) a b c d e hl
  generalize loadE l = R at *
  clear h
  go_enter Try.func16, Try.ntmps16
  go_wp2_with fail
  refine Calls.mono HRD.out ?_
  rintro e w1 ⟨bo, g, rfl, hO, hB, h1, h2, h3, h4⟩
  have HN := Lib.hid (HST.out bo g w1 hO hB h1 h3 h4)
  clear hO hB h1 h2 h3 h4 HST HRD
  go_wp2_with fail
  refine Calls.mono HN.out ?_
  rintro e w2 ⟨bs, rfl, hV⟩
  have HV := Lib.hid hV
  clear hV HN
  go_wp2_with fail
  refine Calls.mono HV.out ?_
  rintro e w3 ⟨tot, rfl, htot, hT⟩
  have HT0 := Lib.hid hT
  clear hT HV
  go_wp2_with fail
  go_loopw [6, 14] (fun s i wr => ∃ (k : Nat) (b : ByteArray), i = .int .i64 k ∧ s = .string b ∧ k ≤ tot ∧ LoadTo w bo g bs R tot (tot - k) b wr) (fun _ i _ => tot - (intOf i).toNat)
  case atStart => exact ⟨0, ⟨#[]⟩, rfl, rfl, by omega, HT0.out⟩
  case round =>
    obtain ⟨k, b, rfl, rfl, hk, hT⟩ := hrel
    have HT := Lib.hid hT
    clear hT HT0
    by_cases hlt : k < tot
    · have hT2 := HT.out
      rw [show tot - k = (tot - k - 1) + 1 by omega] at hT2
      have HR := Lib.hid (hT2.round htot (by omega))
      clear hT2
      go_wp2_with fail
      refine Calls.mono HR.out ?_
      rintro e w4 ⟨a, m, c, key, rfl, hcv, er, hErr, hrest⟩
      have HER := Lib.hid hErr
      have HREST := Lib.hid hrest
      clear hErr hrest HR
      rcases HREST.out with ⟨he, hT3, x, hRx, hx, hl4⟩ | ⟨he, hnl, hR⟩ | ⟨he, hlt2, hX⟩
      · obtain ⟨q, hEnd⟩ := LoadTo.done (.inr ⟨_, hT3, x, hRx, hx, hl4⟩)
        have HEND := Lib.hid hEnd
        have hen : (er == 0) = false := by simpa using he
        clear hEnd hT3 hRx hl4 HREST he
        go_wp2_with (go_at_call 42; refine Calls.mono HER.out ?_; rintro e w' ⟨rfl, rfl⟩)
        refine Calls.mono HEND.out ?_
        rintro e w5 ⟨rfl, hq0, hq1⟩
        by_cases hq : q = 0
        · subst hq
          have HQ := Lib.hid (hq0 rfl)
          clear hq0 hq1
          go_wp2_with fail
          refine Calls.mono HQ.out ?_
          rintro e w6 ⟨rfl, hR⟩
          go_wp2
          refine bodyPost_ret (results_tmp2 rfl _ _ _) rfl ?_
          exact hR
        · have hR := hq1 hq
          have hqn : (q == 0) = false := by simpa using hq
          clear hq0 hq1
          go_wp2
          refine bodyPost_ret (results_tmp2 rfl _ _ _) rfl ?_
          exact hR
      · subst he
        have hL := leq_KLt key b
        rw [show decide (KLt b key) = false by simpa using hnl] at hL
        clear HREST hnl
        go_wp2_with (go_at_call 42; refine Calls.mono HER.out ?_; rintro e w' ⟨rfl, rfl⟩)
        refine bodyPost_ret (results_tmp2 rfl _ _ _) rfl ?_
        exact hR
      · subst he
        have hL := leq_KLt key b
        rw [show decide (KLt b key) = true by simpa using hlt2] at hL
        have HX := Lib.hid hX
        clear HREST hlt2 hX
        go_wp2_with (go_at_call 42; refine Calls.mono HER.out ?_; rintro e w' ⟨rfl, rfl⟩)
        refine Calls.mono HX.out ?_
        rintro e w5 ⟨a2, m2, c2, v, rfl, hcv2, hset⟩
        have HSET := Lib.hid hset
        clear hset HX hcv
        go_wp2_with fail
        refine Calls.mono HSET.out ?_
        rintro e w6 ⟨rfl, hT4⟩
        have HT4 := Lib.hid hT4
        clear hT4 HSET
        go_wp2
        go_roundw
        case rel => exact ⟨k + 1, key, by go_num, rfl, by omega, by rw [show tot - (k + 1) = tot - k - 1 by omega]; exact HT4.out⟩
        case measure => simp [intOf]; omega
    · obtain rfl : k = tot := by omega
      have hT2 := HT.out
      rw [Nat.sub_self] at hT2
      obtain ⟨q, hEnd⟩ := LoadTo.done (.inl hT2)
      have HEND := Lib.hid hEnd
      clear hEnd hT2
      go_wp2_with fail
      refine Calls.mono HEND.out ?_
      rintro e w5 ⟨rfl, hq0, hq1⟩
      by_cases hq : q = 0
      · subst hq
        have HQ := Lib.hid (hq0 rfl)
        clear hq0 hq1
        go_wp2_with fail
        refine Calls.mono HQ.out ?_
        rintro e w6 ⟨rfl, hR⟩
        go_wp2
        refine bodyPost_ret (results_tmp2 rfl _ _ _) rfl ?_
        exact hR
      · have hR := hq1 hq
        have hqn : (q == 0) = false := by simpa using hq
        clear hq0 hq1
        go_wp2
        refine bodyPost_ret (results_tmp2 rfl _ _ _) rfl ?_
        exact hR
end Go.Proofs.Ytgnnnjabgoadaaa
