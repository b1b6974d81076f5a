/- What is proved here: a question, a struct of an int and a slice of ints, opened, by value. -/
import Derived.Test.YtifnlcpdpempcaaGreatRow
import Derived.Lib.SmallJoins
import Derived.ChangeSlices
namespace Go.Proofs.YtifnlcpdpempcaaGreat
open Go.RowKit Go.ChangeShapes Go.WideShapes Go.ChangeAt Go.Joins

section
variable {H : Type} {enc : TypeId × Value → H} {w : World} {base : Nat} {spare : Nat → Bool} {held : Bool}
set_option maxRecDepth 100000 in
theorem open_query {r : Reach} {b0 : Nat} {v : Value} {d : DataW H} {p : List MemPlace} (hv : Value.okWide Tryz.prog w r b0 62 v) (h : DataW.Trod enc Tryz.prog w base spare held 62 v d p) :
    ∃ (k : Int) (a : Option Addr) (n c : Nat), v = .agg #[.int .i64 k, .slice a n c] := by
  obtain ⟨fs, hfs, h0, h1⟩ : ∃ fs : Array Field, Tryz.prog.underlying 62 = some (.struct fs) ∧ (∃ f, fs[0]? = some f ∧ f.offset = 0 ∧ Tryz.prog.cellsOf f.type = 1 ∧ Tryz.prog.underlying f.type = some (.int .i64)) ∧ (∃ f, fs[1]? = some f ∧ f.offset = 1 ∧ Tryz.prog.cellsOf f.type = 1 ∧ ∃ e, Tryz.prog.underlying f.type = some (.slice e)) :=
    ⟨_, Tryz.underlying62, ⟨_, rfl, rfl, by kernel_rfl, by kernel_rfl⟩, ⟨_, rfl, rfl, by kernel_rfl, 3, by kernel_rfl⟩⟩
  obtain ⟨cs, rfl, hsz⟩ := okWide_struct hfs hv
  have hc2 : Tryz.prog.cellsOf 62 = 2 := by kernel_rfl
  rw [hc2] at hsz
  obtain ⟨fuel, hf⟩ := h
  obtain ⟨xs, n, _, hx, hlen, hxl, hg⟩ := DataW.trod_struct hfs hf
  obtain ⟨f0, hf0, o0, c0, u0⟩ := h0
  obtain ⟨f1, hf1, o1, c1, e1, u1⟩ := h1
  have hfz : 1 < fs.size := (Array.getElem?_eq_some_iff.1 hf1).1
  have g0 := hg 0 f0 hf0
  have g1 := hg 1 f1 hf1
  rw [o0, c0] at g0
  rw [o1, c1] at g1
  obtain ⟨l⟩ := cs
  match l, hsz with
  | [v0, v1], _ =>
    have hcs : (Value.agg ⟨[v0, v1]⟩).cells.toList = [v0, v1] := rfl
    rw [hcs] at g0 g1
    have hx0 : xs[0]? = some (xs[0]'(by omega)) := List.getElem?_eq_getElem (by omega)
    have hx1 : xs[1]? = some (xs[1]'(by omega)) := List.getElem?_eq_getElem (by omega)
    rw [hx0] at g0
    rw [hx1] at g1
    obtain ⟨k, hk, _⟩ := DataW.trod_int u0 g0
    have hk2 : [v0] = [.int .i64 k] := hk
    cases hk2
    rcases DataW.trod_slice u1 g1 with ⟨h1, _⟩ | ⟨a', len', cap', elems, rest, n, _, h1, _⟩
    · have h2 : [v1] = [.slice none 0 0] := h1
      cases h2
      exact ⟨k, none, 0, 0, rfl⟩
    · have h2 : [v1] = [.slice (some a') len' cap'] := h1
      cases h2
      exact ⟨k, _, _, _, rfl⟩
end
end Go.Proofs.YtifnlcpdpempcaaGreat
