/- What is proved here: the reference's Load: entries of any bytes, or the first that is wrong: what the walk wants. Its condition: fewer than 10^11 bytes. the walk of the reference's Load. Its condition: fewer than 10^11 bytes. the reference's Load. Its condition: fewer than 10^11 bytes. -/
import Derived.Test.YtgnnnjabgoadaaaROct
import Derived.Test.YtgnnnjabgoadaaaLoad
import Derived.Test.YtgnnnjabgoadaaaRStore
import Derived.Test.YtgnnnjabgoadaaaUnder
namespace Go.Proofs.Ytgnnnjabgoadaaa
open Go.RowKit

/-- Load under way: the source at b, the pairs in v. -/
structure RLoadAt (w : World) (b : Nat) (l : List UInt8) (e : Int) (out : List Ent) (v : Value) (wr : World) : Prop where
  bl : Below w.heap.size w wr
  hb : w.heap.size ≤ b
  oct : ROctRep wr b l e
  own : Own wr 39 2 v out.length (pairV out)
  fresh : ∀ k, v.ownBlock = some k → b < k

theorem ROctRep.lt {w : World} {b : Nat} {l : List UInt8} {e : Int} (h : ROctRep w b l e) : b < w.heap.size := by
  obtain ⟨a, c, h⟩ := h; exact lt_of_at h.hd

theorem RLoadAt.text {w wr w1 : World} {b : Nat} {l l' : List UInt8} {e e' : Int} {out : List Ent} {v : Value} (h : RLoadAt w b l e out v wr) (hF : Fr (fun k => k = b) wr w1) (hO : ROctRep w1 b l' e') : RLoadAt w b l' e' out v w1 :=
  have hb := h.hb
  ⟨⟨hF.os.trans h.bl.os, hF.tape.trans h.bl.tape, hF.output.trans h.bl.output, Nat.le_trans h.bl.size hF.size, fun k hk => (hF.block k (Nat.lt_of_lt_of_le hk h.bl.size) (fun e => by omega)).trans (h.bl.block k hk)⟩, h.hb, hO, h.own.fr hF (fun k hk e => by have := h.fresh k hk; omega), h.fresh⟩

/-- One pair more. -/
theorem RLoadAt.push {w wr : World} {b : Nat} {l : List UInt8} {e : Int} {out : List Ent} {v : Value} (h : RLoadAt w b l e out v wr) (x y : ByteArray) :
    Own (wr.alloc (.cells #[.string x, .string y] 39)) 39 2 v out.length (pairV out) ∧
      ∀ v' w', Appended (wr.alloc (.cells #[.string x, .string y] 39)) 39 2 v out.length 1 (pairV out) [.string x, .string y] v' w' → RLoadAt w b l e (out ++ [(x, y)]) v' w' := by
  have hbl := h.oct.lt
  have hb1 : Below wr.heap.size wr (wr.alloc (.cells #[.string x, .string y] 39)) := (Below.refl _ wr).alloc (Nat.le_refl _) _
  have hb0 : Below (b + 1) wr (wr.alloc (.cells #[.string x, .string y] 39)) := (Below.refl _ wr).alloc (by omega) _
  refine ⟨h.own.frame (fun k hk => hb1.block k (h.own.lt k hk)), fun v' w' hA => ?_⟩
  have hsz := h.bl.size
  have hb := h.hb
  have hs1 : (wr.alloc (.cells #[.string x, .string y] 39)).heap.size = wr.heap.size + 1 := by simp
  refine ⟨(h.bl.alloc hsz _).grown hA.grown (by omega) (fun k hk => by have := h.fresh k hk; omega), h.hb, h.oct.below (hb0.grown hA.grown (by omega) (fun k hk => by have := h.fresh k hk; omega)), ?_, fun k hk => ?_⟩
  · have e : pairV (out ++ [(x, y)]) = pairV out ++ [.string x, .string y] := by rw [pairV_append]; rfl
    rw [e, List.length_append]
    exact hA.own
  · rcases hA.block k hk with h1 | h1
    · exact h.fresh k h1
    · omega

/-- What Load returns. -/
def RetRLoad (w : World) (R : Except Nat (List Ent)) (en : Ending) (w' : World) : Prop := Below w.heap.size w w' ∧
  match R with
  | .ok l => ∃ v, en = .returned (.tuple #[v, .int .i64 0]) ∧ Own w' 39 2 v l.length (pairV l)
  | .error x => en = .returned (.tuple #[.slice none 0 0, .int .i64 x])

/-- Where Load's loop stands: n entries are still to come. -/
def lastK (out : List Ent) : ByteArray := (out.getLast?.map Prod.fst).getD emptyB

def RLoadTo (w : World) (b : Nat) (R : Except Nat (List Ent)) (tot n : Nat) (v : Value) (wr : World) : Prop :=
  ∃ l e out, RLoadAt w b l e out v wr ∧ l.length < 100000000000 ∧ out.length + n ≤ tot ∧
    ((e = 0 ∧ R = loadN n l (lastK out) out) ∨ (∃ x : Nat, e = x ∧ x ≠ 0 ∧ R = .error x))

theorem RLoadTo.form {w : World} {b : Nat} {R : Except Nat (List Ent)} {tot n : Nat} {v : Value} {wr : World} (h : RLoadTo w b R tot n v wr) :
    ∃ (a : Option Addr) (m c : Nat) (e : Int), v = .slice a m c ∧ m ≤ tot ∧ wr.cell? ⟨b, 1, none⟩ = some (.int .i64 e) ∧ (e = 0 ∨ (e ≠ 0 ∧ ∃ x : Nat, e = x ∧ R = .error x ∧ ∃ l out, RLoadAt w b l e out v wr)) := by
  obtain ⟨l, e, out, hA, _, hn, hr⟩ := h
  obtain ⟨_, a, c, rfl, _⟩ := hA.own.src
  have hc : wr.cell? ⟨b, 1, none⟩ = some (.int .i64 e) := by obtain ⟨a', c', h2⟩ := hA.oct; exact h2.cells.2.1
  refine ⟨a, _, c, e, rfl, by omega, hc, ?_⟩
  rcases hr with ⟨h, _⟩ | ⟨x, rfl, hx, hR⟩
  · exact .inl h
  · exact .inr ⟨by omega, x, rfl, hR, l, out, hA⟩

/-- The loop is over. -/
theorem RLoadTo.done {w : World} {b : Nat} {R : Except Nat (List Ent)} {tot : Nat} {v : Value} {wr : World} (h : RLoadTo w b R tot 0 v wr ∨ ∃ x : Nat, x ≠ 0 ∧ R = .error x ∧ ∃ l out, RLoadAt w b l x out v wr) :
    Calls Try.prog 50 #[.pointer (some ⟨b, 0, none⟩)] wr fun en w' => ∃ q : Int, en = .returned (.int .i64 q) ∧ ((q = 0 ∧ RetRLoad w R (.returned (.tuple #[v, .int .i64 0])) w') ∨ (q ≠ 0 ∧ w'.cell? ⟨b, 1, none⟩ = some (.int .i64 q) ∧ ∀ m, RetRLoad w R (.returned (.tuple #[.slice none 0 0, .int .i64 q])) (w'.drewN m))) := by
  have key : ∀ l (e : Int) out, RLoadAt w b l e out v wr → (endE l e = 0 → R = .ok out) → (endE l e ≠ 0 → ∃ x : Nat, endE l e = x ∧ R = .error x) → Calls Try.prog 50 #[.pointer (some ⟨b, 0, none⟩)] wr fun en w' => ∃ q : Int, en = .returned (.int .i64 q) ∧ ((q = 0 ∧ RetRLoad w R (.returned (.tuple #[v, .int .i64 0])) w') ∨ (q ≠ 0 ∧ w'.cell? ⟨b, 1, none⟩ = some (.int .i64 q) ∧ ∀ m, RetRLoad w R (.returned (.tuple #[.slice none 0 0, .int .i64 q])) (w'.drewN m))) := fun l e out hA h0 h1 => by
    refine (roct_end wr b l e hA.oct).mono fun en w' ⟨he, hc, hF⟩ => ⟨endE l e, he, ?_⟩
    have hb := hA.hb
    have hB : Below w.heap.size w w' := ⟨hF.os.trans hA.bl.os, hF.tape.trans hA.bl.tape, hF.output.trans hA.bl.output, Nat.le_trans hA.bl.size hF.size, fun k hk => (hF.block k (Nat.lt_of_lt_of_le hk hA.bl.size) (fun e => by omega)).trans (hA.bl.block k hk)⟩
    by_cases hq : endE l e = 0
    · rw [h0 hq, hq]
      exact .inl ⟨rfl, hB, v, rfl, hA.own.fr hF (fun k hk e => by have := hA.fresh k hk; omega)⟩
    · obtain ⟨x, hx, hR⟩ := h1 hq
      have hc' := hc hq
      rw [hR]
      refine .inr ⟨hq, hc', fun m => ⟨⟨hB.os, hB.tape, hB.output, hB.size, hB.block⟩, ?_⟩⟩
      rw [hx]
  rcases h with ⟨l, e, out, hA, _, _, ⟨rfl, hR⟩ | ⟨x, rfl, hx, hR⟩⟩ | ⟨x, hx, hR, l, out, hA⟩
  · refine key l 0 out hA (fun hq => ?_) (fun hq => ?_)
    · rw [hR]
      unfold endE at hq
      rw [if_pos rfl] at hq
      by_cases hl : l = []
      · rw [loadN, if_pos hl]
      · rw [if_neg hl] at hq; omega
    · unfold endE at hq ⊢
      rw [if_pos rfl] at hq ⊢
      by_cases hl : l = []
      · rw [if_pos hl] at hq; omega
      · rw [if_neg hl]
        exact ⟨4, rfl, by rw [hR, loadN, if_neg hl]⟩
  · have he : endE l (x : Int) = x := by unfold endE; rw [if_neg (by omega)]
    exact key l x out hA (fun hq => by rw [he] at hq; omega) (fun _ => ⟨x, he, hR⟩)
  · have he : endE l (x : Int) = x := by unfold endE; rw [if_neg (by omega)]
    exact key l x out hA (fun hq => by rw [he] at hq; omega) (fun _ => ⟨x, he, hR⟩)
end Go.Proofs.Ytgnnnjabgoadaaa

namespace Go.Proofs.Ytgnnnjabgoadaaa
open Go.RowKit

theorem lastK_snoc (out : List Ent) (k v : ByteArray) : lastK (out ++ [(k, v)]) = k := by
  unfold lastK; simp

/-- What follows a key: its value, and the pair. -/
def RTail (w : World) (b : Nat) (R : Except Nat (List Ent)) (tot n : Nat) (v : Value) (k : ByteArray) (w1 : World) : Prop :=
  Calls Try.prog 49 #[.pointer (some ⟨b, 0, none⟩), .int .i64 1073741824] w1 fun en w2 => ∃ a m c y, en = .returned (.slice a m c) ∧ (convert 36 9 (.slice a m c)).run Try.prog w2 = .ok (.string y) w2 ∧
    ∃ len xs, len < tot ∧ Own (w2.alloc (.cells #[.string k, .string y] 39)) 39 2 v len xs ∧
      ∀ v' w', Appended (w2.alloc (.cells #[.string k, .string y] 39)) 39 2 v len 1 xs [.string k, .string y] v' w' → RLoadTo w b R tot n v' w'

theorem rtail_ok {w w1 : World} {b : Nat} {R : Except Nat (List Ent)} {tot n : Nat} {v : Value} {l : List UInt8} {out : List Ent} {k : ByteArray} (hA : RLoadAt w b l 0 out v w1) (hl : l.length < 100000000000) (hn : out.length + (n + 1) ≤ tot)
    (hR : R = match textL l 1073741824 with | .error e => .error e | .ok (y, r2) => loadN n r2 k (out ++ [(k, ⟨y.toArray⟩)])) : RTail w b R tot n v k w1 := by
  refine (rtext_any w1 b l 1073741824 hA.oct (by omega)).mono fun en w2 ⟨hF, a, m, c, hen, hr⟩ => ?_
  cases ht : textL l 1073741824 with
  | error x =>
    rw [ht] at hr hR
    have hA2 := hA.text hF hr.2
    refine ⟨a, m, c, _, hen, hr.1, out.length, _, by omega, (hA2.push k _).1, fun v' w' hAp => ⟨[], x, _, (hA2.push k _).2 v' w' hAp, by simp, by rw [List.length_append]; simp; omega, .inr ⟨x, rfl, ?_, hR⟩⟩⟩
    rcases textL_err ht with h | h | h <;> omega
  | ok p =>
    obtain ⟨y, r⟩ := p
    rw [ht] at hr hR
    have hlen := textL_len ht
    have hA2 := hA.text hF hr.2
    exact ⟨a, m, c, _, hen, hr.1, out.length, _, by omega, (hA2.push k _).1, fun v' w' hAp => ⟨r, 0, _, (hA2.push k _).2 v' w' hAp, by omega, by rw [List.length_append]; simp; omega, .inl ⟨rfl, by rw [lastK_snoc]; exact hR⟩⟩⟩

theorem rtail_err {w w1 : World} {b : Nat} {R : Except Nat (List Ent)} {tot n : Nat} {v : Value} {l : List UInt8} {x : Nat} {out : List Ent} {k : ByteArray} (hA : RLoadAt w b l x out v w1) (hl : l.length < 100000000000) (hn : out.length + (n + 1) ≤ tot)
    (hx : x ≠ 0) (hR : R = .error x) : RTail w b R tot n v k w1 := by
  refine (rtext_err w1 b l 1073741824 x (by omega) hA.oct).mono fun en w2 ⟨hen, hw⟩ => ?_
  subst hw
  exact ⟨none, 0, 0, ⟨#[]⟩, hen, run_conv_nil w1 0, out.length, _, by omega, (hA.push k _).1, fun v' w' hAp => ⟨l, x, _, (hA.push k _).2 v' w' hAp, hl, by rw [List.length_append]; simp; omega, .inr ⟨x, rfl, hx, hR⟩⟩⟩

/-- The last key, where there is one. -/
def LastAt (w : World) (v : Value) (last : ByteArray) : Prop := (∃ a c, v = .slice a 0 c ∧ last = emptyB) ∨ ∃ g m c, v = .slice (some ⟨g, 0, none⟩) (m + 1) c ∧ w.cell? ⟨g, m * 2, none⟩ = some (.string last) ∧ m < 1073741824

theorem RLoadAt.last {w wr : World} {b : Nat} {l : List UInt8} {e : Int} {out : List Ent} {v : Value} (h : RLoadAt w b l e out v wr) (hn : out.length ≤ 1073741824) : LastAt wr v (lastK out) := by
  obtain ⟨a, c, rfl, hp⟩ := h.own.pairs
  by_cases ho : out = []
  · subst ho
    exact .inl ⟨a, c, rfl, rfl⟩
  · have hpos := List.length_pos_iff.2 ho
    obtain ⟨m, hm⟩ : ∃ m, out.length = m + 1 := ⟨out.length - 1, by omega⟩
    have hx : out[m]? = some (out[m]'(by omega)) := List.getElem?_eq_getElem _
    obtain ⟨g, rfl, h1, _⟩ := hp.at0 m _ hx
    refine .inr ⟨g, m, c, by rw [hm], ?_, by omega⟩
    rw [h1]
    have : out.getLast? = some (out[m]'(by omega)) := by
      have e1 : out.length - 1 = m := by omega
      rw [List.getLast?_eq_getElem?, e1]; exact hx
    unfold lastK
    rw [this]; rfl

/-- A key is read, where no error is kept. -/
theorem RLoadTo.round {w : World} {b : Nat} {R : Except Nat (List Ent)} {tot n : Nat} {v : Value} {wr : World} (h : RLoadTo w b R tot (n + 1) v wr) (h0 : wr.cell? ⟨b, 1, none⟩ = some (.int .i64 0)) (htot : tot ≤ 1073741824) :
    Calls Try.prog 49 #[.pointer (some ⟨b, 0, none⟩), .int .i64 1073741824] wr fun en w1 => ∃ a m c k, en = .returned (.slice a m c) ∧ (convert 36 9 (.slice a m c)).run Try.prog w1 = .ok (.string k) w1 ∧ ∃ e : Int, w1.cell? ⟨b, 1, none⟩ = some (.int .i64 e) ∧
      ((e ≠ 0 ∧ RTail w b R tot n v k w1) ∨ ∃ last, e = 0 ∧ LastAt w1 v last ∧ ((¬ KLt last k ∧ RetRLoad w R (.returned (.tuple #[.slice none 0 0, .int .i64 4])) w1) ∨ (KLt last k ∧ RTail w b R tot n v k w1))) := by
  obtain ⟨l, e, out, hA, hl, hn, hr⟩ := h
  have he : e = 0 := by
    obtain ⟨a, c, h2⟩ := hA.oct
    have := h2.cells.2.1
    rw [h0] at this
    cases this; rfl
  subst he
  obtain ⟨_, hR⟩ | ⟨x, hx, hx0, _⟩ := hr
  · refine (rtext_any wr b l 1073741824 hA.oct (by omega)).mono fun en w1 ⟨hF, a, m, c, hen, hr⟩ => ?_
    cases ht : textL l 1073741824 with
    | error x =>
      rw [ht] at hr
      have hA1 := hA.text hF hr.2
      have hx0 : x ≠ 0 := by rcases textL_err ht with h | h | h <;> omega
      have hc : w1.cell? ⟨b, 1, none⟩ = some (.int .i64 x) := by obtain ⟨a', c', h2⟩ := hr.2; exact h2.cells.2.1
      exact ⟨a, m, c, _, hen, hr.1, x, hc, .inl ⟨by omega, rtail_err hA1 (by simp) hn hx0 (by rw [hR, loadN, ht])⟩⟩
    | ok p =>
      obtain ⟨k, r⟩ := p
      rw [ht] at hr
      have hlen := textL_len ht
      have hA1 := hA.text hF hr.2
      have hc : w1.cell? ⟨b, 1, none⟩ = some (.int .i64 0) := by obtain ⟨a', c', h2⟩ := hr.2; exact h2.cells.2.1
      refine ⟨a, m, c, _, hen, hr.1, 0, hc, .inr ⟨lastK out, rfl, hA1.last (by omega), ?_⟩⟩
      by_cases hlt : KLt (lastK out) ⟨k.toArray⟩
      · refine .inr ⟨hlt, rtail_ok hA1 (by omega) hn ?_⟩
        rw [hR, loadN, ht]
        simp only [hlt, not_true_eq_false, if_false]
        cases textL r 1073741824 with
        | error x => rfl
        | ok p => rfl
      · refine .inl ⟨hlt, ?_⟩
        have hRe : R = .error 4 := by
          rw [hR, loadN, ht]
          simp only [hlt, not_false_eq_true, if_true]
        rw [hRe]
        exact ⟨hA1.bl, rfl⟩
  · omega
end Go.Proofs.Ytgnnnjabgoadaaa

namespace Go.Proofs.Ytgnnnjabgoadaaa
open Go.RowKit

theorem rload_start (w : World) (a : Option Addr) (c : Nat) (l : List UInt8) (h : Src w 1 (.slice a l.length c) l.length (bytesV l)) (hc : l.length ≤ c) (hl : l.length < 100000000000) :
    Calls Try.prog 48 #[.pointer (some ⟨w.heap.size, 0, none⟩), .int .i64 1073741824] (w.alloc (.cells #[.slice a l.length c, .int .i64 0] 81)) fun en w3 =>
      ∃ tot : Nat, en = .returned (.int .i64 tot) ∧ tot ≤ 1073741824 ∧ RLoadTo w w.heap.size (loadE l) tot tot (.slice none 0 0) w3 := by
  have hO : ROctRep (w.alloc (.cells #[.slice a l.length c, .int .i64 0] 81)) w.heap.size l 0 := by
    refine ⟨a, c, heap_alloc_new w _, h.below ((Below.refl _ w).alloc (Nat.le_refl _) _), hc, fun hne k hk => ?_⟩
    obtain ⟨_, a', c', e, hx⟩ := h
    cases e
    cases l with
    | nil => exact absurd rfl hne
    | cons x r =>
      obtain ⟨ad, rfl, hcell⟩ := hx 0 _ rfl
      have := World.block_lt_of_cell? w _ hcell
      simp [Value.ownBlock] at hk
      subst hk
      simpa [Addr.add] using this
  have hA : RLoadAt w w.heap.size l 0 [] (.slice none 0 0) (w.alloc (.cells #[.slice a l.length c, .int .i64 0] 81)) :=
    ⟨(Below.refl _ w).alloc (Nat.le_refl _) _, Nat.le_refl _, hO, Own.nil _ _ _, fun k hk => by simp [Value.ownBlock] at hk⟩
  refine (rvar_any _ _ l 1073741824 hO (by omega)).mono fun en w3 ⟨hF, hr⟩ => ?_
  cases hv : varL l 1073741824 with
  | error x =>
    rw [hv] at hr
    refine ⟨0, hr.1, by omega, [], x, [], hA.text hF hr.2, by simp, by simp, .inr ⟨x, rfl, ?_, ?_⟩⟩
    · rcases varL_err hv with h | h | h <;> omega
    · unfold loadE; rw [hv]
  | ok p =>
    obtain ⟨n, r⟩ := p
    rw [hv] at hr
    obtain ⟨hlen, hle⟩ := varL_len hv
    refine ⟨n, hr.1, hle, r, 0, [], hA.text hF hr.2, by omega, by simp, .inl ⟨rfl, ?_⟩⟩
    unfold loadE; rw [hv]; rfl

theorem lt_nil {k : ByteArray} (h : k ≠ emptyB) : KLt emptyB k := by
  by_cases h1 : KLt emptyB k
  · exact h1
  · by_cases h2 : KLt k emptyB
    · exfalso
      unfold KLt emptyB at h2
      simp at h2
    · exact absurd (KLt.eq h2 h1) h

set_option maxRecDepth 100000 in
set_option maxHeartbeats 4000000 in
theorem rload_any (w : World) (a : Option Addr) (c : Nat) (l : List UInt8) (h : Src w 1 (.slice a l.length c) l.length (bytesV l)) (hc : l.length ≤ c) (hl : l.length < 100000000000) :
    Calls Try.prog 20 #[.slice a l.length c] w (RetRLoad w (loadE l)) := by
  have HV := Lib.hid (rload_start w a c l h hc hl)
  generalize loadE l = R at *
  generalize l.length = ln at *
  clear h
  go_enter Try.func20, Try.ntmps20
  go_wp2_with fail
  refine Calls.mono HV.out ?_
  rintro e w3 ⟨tot, rfl, htot, hT⟩
  have HT0 := Lib.hid hT
  clear hT HV
  generalize w.heap.size = b at *
  go_wp2_with fail
  go_loopw [5, 6] (fun v i wr => ∃ n : Nat, i = .int .i64 n ∧ n ≤ tot ∧ RLoadTo w b R tot n v wr) (fun _ i _ => (intOf i).toNat)
  case atStart => exact ⟨tot, rfl, by omega, HT0.out⟩
  case round =>
    obtain ⟨n, rfl, hn, hT⟩ := hrel
    have HT := Lib.hid hT
    clear hT HT0
    obtain ⟨a1, m1, c1, e1, rfl, hm1, hc1, hcase⟩ := HT.out.form
    rcases Nat.eq_zero_or_pos n with rfl | hpos
    · have hDone := RLoadTo.done (.inl HT.out)
      have HD := Lib.hid hDone
      clear hDone hcase
      go_wp2_with fail
      refine Calls.mono HD.out ?_
      rintro e w4 ⟨q, rfl, ⟨rfl, hR⟩ | ⟨hq, hcq, hR⟩⟩
      · go_wp2
        refine bodyPost_ret (results_tmp2 rfl _ _ _) rfl ?_
        exact hR
      · have hqb : (q == 0) = false := by simpa using hq
        have HR := Lib.hid hR
        clear hR hq HD
        go_wp2_with fail
        go_quiet (fail)
        go_wp2
        refine bodyPost_ret (results_tmp2 rfl _ _ _) rfl ?_
        exact HR.out _
    · have hd : decide (0 < (n : Int)) = true := decide_eq_true (by omega)
      rcases hcase with rfl | ⟨he1, x, rfl, hRx, lo⟩
      · obtain ⟨n, rfl⟩ : ∃ k, n = k + 1 := ⟨n - 1, by omega⟩
        have hRd := HT.out.round hc1 htot
        have HRD := Lib.hid hRd
        clear hRd
        go_wp2_with fail
        refine Calls.mono HRD.out ?_
        rintro e w4 ⟨a, m, c, k, rfl, hcv, er, hcr, ⟨her, hTl⟩ | ⟨last, rfl, hLast, ⟨hnl, hR⟩ | ⟨hlt, hTl⟩⟩⟩
        · have HTL := Lib.hid hTl
          have herb : (er == 0) = false := by simpa using her
          clear hTl her HRD
          unfold RTail at HTL
          go_wp2_with fail
          refine Calls.mono HTL.out ?_
          rintro e w5 ⟨a2, m2, c2, y, rfl, hcv2, len, xs, hlen, ho, hst⟩
          have HO := Lib.hid ho
          have HST := Lib.hid hst
          have hmx : len + 1 ≤ maxLen := by unfold maxLen; omega
          have hone := two_one k y
          have hnews := news_two w5 (.string k) (.string y) 39
          clear ho hst HTL hcv
          go_wp2_with (at_builtin; refine wpList_append_Own rfl _ _ 35 35 rfl pairT pairT _ len xs rfl HO.out _ 1 _ [.string k, .string y] rfl rfl hnews hone hmx (by omega) ?_)
          intro v' w6 hA
          have HR2 := Lib.hid (HST.out v' w6 hA)
          clear hA
          go_wp2
          go_roundw
          case rel => exact ⟨n, by go_num, by omega, HR2.out⟩
          case measure => simp [intOf]; try omega
        · have HR := Lib.hid hR
          clear hR HRD
          rcases hLast with ⟨a', c', e, rfl⟩ | ⟨g, m2, c', e, hcell, hm2⟩
          · cases e
            have hke : k.toList.isEmpty = true := by
              by_cases hk : k = emptyB
              · subst hk; rw [ByteArray.toList_eq]; rfl
              · exact absurd (lt_nil hk) hnl
            clear hnl
            go_wp2_with fail
            refine bodyPost_ret (results_tmp2 rfl _ _ _) rfl ?_
            exact HR.out
          · cases e
            have hL := leq_KLt k last
            rw [show decide (KLt last k) = false by simpa using hnl] at hL
            clear hnl
            by_cases hk : k.toList.isEmpty = true
            · go_wp2_with fail
              refine bodyPost_ret (results_tmp2 rfl _ _ _) rfl ?_
              exact HR.out
            · have hke : k.toList.isEmpty = false := by simpa using hk
              clear hk
              go_wp2_with fail
              refine bodyPost_ret (results_tmp2 rfl _ _ _) rfl ?_
              exact HR.out
        · have HTL := Lib.hid hTl
          have hke := emptyK (lt_nil_ne hlt)
          clear hTl HRD
          rcases hLast with ⟨a', c', e, rfl⟩ | ⟨g, m3, c', e, hcell, hm2⟩
          · cases e
            clear hlt
            unfold RTail at HTL
            go_wp2_with fail
            refine Calls.mono HTL.out ?_
            rintro e w5 ⟨a2, m2, c2, y, rfl, hcv2, len, xs, hlen, ho, hst⟩
            have HO := Lib.hid ho
            have HST := Lib.hid hst
            have hmx : len + 1 ≤ maxLen := by unfold maxLen; omega
            have hone := two_one k y
            have hnews := news_two w5 (.string k) (.string y) 39
            clear ho hst HTL hcv
            go_wp2_with (at_builtin; refine wpList_append_Own rfl _ _ 35 35 rfl pairT pairT _ len xs rfl HO.out _ 1 _ [.string k, .string y] rfl rfl hnews hone hmx (by omega) ?_)
            intro v' w6 hA
            have HR2 := Lib.hid (HST.out v' w6 hA)
            clear hA
            go_wp2
            go_roundw
            case rel => exact ⟨n, by go_num, by omega, HR2.out⟩
            case measure => simp [intOf]; try omega
          · cases e
            have hL := leq_KLt k last
            rw [show decide (KLt last k) = true by simpa using hlt] at hL
            clear hlt
            unfold RTail at HTL
            go_wp2_with fail
            refine Calls.mono HTL.out ?_
            rintro e w5 ⟨a2, m2, c2, y, rfl, hcv2, len, xs, hlen, ho, hst⟩
            have HO := Lib.hid ho
            have HST := Lib.hid hst
            have hmx : len + 1 ≤ maxLen := by unfold maxLen; omega
            have hone := two_one k y
            have hnews := news_two w5 (.string k) (.string y) 39
            clear ho hst HTL hcv
            go_wp2_with (at_builtin; refine wpList_append_Own rfl _ _ 35 35 rfl pairT pairT _ len xs rfl HO.out _ 1 _ [.string k, .string y] rfl rfl hnews hone hmx (by omega) ?_)
            intro v' w6 hA
            have HR2 := Lib.hid (HST.out v' w6 hA)
            clear hA
            go_wp2
            go_roundw
            case rel => exact ⟨n, by go_num, by omega, HR2.out⟩
            case measure => simp [intOf]; try omega
      · obtain ⟨l2, out2, hA2⟩ := lo
        have hDone := RLoadTo.done (w := w) (R := R) (tot := tot) (.inr ⟨x, by omega, hRx, l2, out2, hA2⟩)
        have HD := Lib.hid hDone
        have hxb : ((x : Int) == 0) = false := by simpa using he1
        clear hDone hA2 he1 hRx
        go_wp2_with fail
        refine Calls.mono HD.out ?_
        rintro e w4 ⟨q, rfl, ⟨rfl, hR⟩ | ⟨hq, hcq, hR⟩⟩
        · go_wp2
          refine bodyPost_ret (results_tmp2 rfl _ _ _) rfl ?_
          exact hR
        · have hqb : (q == 0) = false := by simpa using hq
          have HR := Lib.hid hR
          clear hR hq HD
          go_wp2_with fail
          go_quiet (fail)
          go_wp2
          refine bodyPost_ret (results_tmp2 rfl _ _ _) rfl ?_
          exact HR.out _
end Go.Proofs.Ytgnnnjabgoadaaa
