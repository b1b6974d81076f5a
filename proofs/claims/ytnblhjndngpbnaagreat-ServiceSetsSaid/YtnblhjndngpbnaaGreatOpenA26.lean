/- What is proved here: the service laws' acts, structs of four ints and a slice of ints, opened: a slice of them that came in. -/
import Derived.Test.YtnblhjndngpbnaaGreatOpenG
import Derived.Test.YtnblhjndngpbnaaGreatServV
namespace Go.Proofs.YtnblhjndngpbnaaGreat
open Go.RowKit Go.ChangeShapes Go.WideShapes Go.ChangeAt

theorem list_of {α : Type} {P : Nat → α → Prop} : ∀ n, (∀ i, i < n → ∃ y, P i y) → ∃ l : List α, l.length = n ∧ ∀ (i : Nat) y, l[i]? = some y → P i y
  | 0, _ => ⟨[], rfl, fun i y h => by simp at h⟩
  | n + 1, h => by
    obtain ⟨l, hl, hp⟩ := list_of n fun i hi => h i (by omega)
    obtain ⟨z, hz⟩ := h n (by omega)
    refine ⟨l ++ [z], by simp [hl], fun i y hy => ?_⟩
    rw [List.getElem?_append] at hy
    split at hy
    · exact hp i y hy
    · rename_i hi
      have : i = n := by
        have := (List.getElem?_eq_some_iff.1 hy).1
        simp at this; omega
      subst this
      rw [hl, Nat.sub_self] at hy
      cases hy
      exact hz

section
variable {H : Type} {enc : TypeId × Value → H} {w : World} {base : Nat} {spare : Nat → Bool} {held : Bool}

/-- An act in memory. -/
def IsA26 (w : World) (cs : List Value) (y : A26) : Prop := cs = [.int .i64 y.k, .int .i64 y.who, .int .i64 y.set, .int .i64 y.g, .slice y.ad y.l.length y.c] ∧ IntsAt w (.slice y.ad y.l.length y.c) y.l ∧ y.who < 9223372036854775808 ∧ y.set < 9223372036854775808 ∧ y.g < 9223372036854775808 ∧ ∀ n ∈ y.l, n < 9223372036854775808

set_option maxRecDepth 100000 in
theorem open_a26 {fuel : Nat} {cs : List Value} {x : DataW H × List MemPlace} (h : DataW.trod enc Tryz.prog w base spare held fuel 34 cs = some x) : ∃ y : A26, IsA26 w cs y := by
  obtain ⟨xs, n, _, hx, hlen, hxl, hg⟩ := DataW.trod_struct Tryz.underlying34 h
  have hc5 : Tryz.prog.cellsOf 34 = 5 := by kernel_rfl
  have e1 : Tryz.prog.cellsOf 3 = 1 := by kernel_rfl
  have e2 : Tryz.prog.cellsOf 32 = 1 := by kernel_rfl
  rw [hc5] at hlen
  have hxl5 : xs.length = 5 := hxl
  have h0 : DataW.trod enc Tryz.prog w base spare held n 3 ((cs.drop 0).take (Tryz.prog.cellsOf 3)) = xs[0]? := hg 0 _ rfl
  have h1 : DataW.trod enc Tryz.prog w base spare held n 3 ((cs.drop 1).take (Tryz.prog.cellsOf 3)) = xs[1]? := hg 1 _ rfl
  have h2 : DataW.trod enc Tryz.prog w base spare held n 3 ((cs.drop 2).take (Tryz.prog.cellsOf 3)) = xs[2]? := hg 2 _ rfl
  have h3 : DataW.trod enc Tryz.prog w base spare held n 3 ((cs.drop 3).take (Tryz.prog.cellsOf 3)) = xs[3]? := hg 3 _ rfl
  have h4 : DataW.trod enc Tryz.prog w base spare held n 32 ((cs.drop 4).take (Tryz.prog.cellsOf 32)) = xs[4]? := hg 4 _ rfl
  rw [e1] at h0 h1 h2 h3
  rw [e2] at h4
  match cs, hlen with
  | [c0, c1, c2, c3, c4], _ =>
    match xs, hxl5 with
    | [x0, x1, x2, x3, x4], _ =>
      obtain ⟨k, hk, _⟩ := DataW.trod_int Tryz.underlying3 (show DataW.trod enc Tryz.prog w base spare held n 3 [c0] = some x0 from h0)
      obtain ⟨a, ha, ha2⟩ := DataW.trod_int Tryz.underlying3 (show DataW.trod enc Tryz.prog w base spare held n 3 [c1] = some x1 from h1)
      obtain ⟨m, hm, hm2⟩ := DataW.trod_int Tryz.underlying3 (show DataW.trod enc Tryz.prog w base spare held n 3 [c2] = some x2 from h2)
      obtain ⟨g, hg', hg2⟩ := DataW.trod_int Tryz.underlying3 (show DataW.trod enc Tryz.prog w base spare held n 3 [c3] = some x3 from h3)
      cases hk
      cases ha
      cases hm
      cases hg'
      rcases open_ints Tryz.underlying32 Tryz.underlying3 (by kernel_rfl) (show DataW.trod enc Tryz.prog w base spare held n 32 [c4] = some x4 from h4) with ⟨e, _⟩ | ⟨a', len', cap', zs, e, _, _, _, h5, _, h7, h8⟩
      · cases e
        exact ⟨⟨k, a, m, g, none, 0, []⟩, rfl, .inl ⟨rfl, rfl⟩, (wf_lt ha2.2).2, (wf_lt hm2.2).2, (wf_lt hg2.2).2, fun n hn => by cases hn⟩
      · cases e
        have hz : len' ≤ zs.length := by rw [h5]; split <;> omega
        have hln : (zs.take len').length = len' := by rw [List.length_take, Nat.min_eq_left hz]
        refine ⟨⟨k, a, m, g, some a', cap', zs.take len'⟩, by simp only; rw [hln], .inr ⟨a', cap', rfl, fun j x hj => ?_⟩, (wf_lt ha2.2).2, (wf_lt hm2.2).2, (wf_lt hg2.2).2, fun n hn => (wf_lt (h8 n (List.mem_of_mem_take hn))).2⟩
        rw [List.getElem?_take] at hj
        split at hj
        · have hjl : j < zs.length := by omega
          rw [h7 j hjl]
          rw [List.getD, hj]; rfl
        · cases hj

set_option maxRecDepth 100000 in
theorem open_a26V {r : Reach} {b0 : Nat} {v : Value} {d : DataW H} {p : List MemPlace} (hv : Value.okWide Tryz.prog w r b0 22 v) (h : DataW.Trod enc Tryz.prog w base spare held 22 v d p) :
    ∃ (l : List A26) (a : Option Addr) (c : Nat), v = .slice a l.length c ∧ Acts26In w a l := by
  obtain ⟨a, len, cap, rfl⟩ := okWide_slice Tryz.underlying22 hv
  obtain ⟨fuel, hf⟩ := h
  have hc5 : Tryz.prog.cellsOf 34 = 5 := by kernel_rfl
  rcases DataW.trod_slice Tryz.underlying22 hf with ⟨h1, _⟩ | ⟨a', len', cap', elems, rest, n, _, h1, h2, _, _, _, hlen, hel, _⟩
  · have h2 : [Value.slice a len cap] = [.slice none 0 0] := h1
    cases h2
    exact ⟨[], none, 0, rfl, fun k x hx => (by simp at hx), fun x hx => (by cases hx), fun x hx => (by cases hx)⟩
  · have h3 : [Value.slice a len cap] = [.slice (some a') len' cap'] := h1
    cases h3
    rw [hc5] at hel
    obtain ⟨l, hl, hp⟩ := list_of (P := fun i (y : A26) => ∃ cs, w.cells? base (a'.add (i * 5)) 5 = some cs ∧ IsA26 w cs y) len fun i hi => by
      have := hel i hi
      rw [List.getElem?_eq_getElem (by omega : i < elems.length), Option.bind_eq_some_iff] at this
      obtain ⟨cs, hcs, ht⟩ := this
      obtain ⟨y, hy⟩ := open_a26 ht
      exact ⟨y, cs, hcs, hy⟩
    refine ⟨l, some a', cap, by rw [hl], fun k x hx => ?_, fun x hx => ?_, fun x hx => ?_⟩
    · obtain ⟨cs, hcs, he, _⟩ := hp k x hx
      subst he
      obtain ⟨_, _, hc⟩ := World.cells?_some hcs
      exact ⟨a', rfl, hc 0 (by omega), hc 1 (by omega), hc 2 (by omega), hc 3 (by omega), hc 4 (by omega)⟩
    · obtain ⟨i, hi⟩ := List.getElem?_of_mem hx
      obtain ⟨cs, _, _, h2, _⟩ := hp i x hi
      exact h2
    · obtain ⟨i, hi⟩ := List.getElem?_of_mem hx
      obtain ⟨cs, _, _, _, h3⟩ := hp i x hi
      exact h3
end
end Go.Proofs.YtnblhjndngpbnaaGreat
