/- What is proved here: any struct of ints, by value, opened. -/
import Derived.Test.YtnblhjndngpbnaaGreatRow
import Derived.Lib.SmallJoins
namespace Go.Proofs.YtnblhjndngpbnaaGreat
open Go.RowKit Go.ChangeShapes Go.WideShapes Go.ChangeAt Go.Joins

section
variable {H : Type} {enc : TypeId × Value → H} {P : Program} {w : World} {base : Nat} {spare : Nat → Bool} {held : Bool}

/-- Each field is one int. -/
def intFields (P : Program) (fs : Array Field) : Bool := (List.range fs.size).all fun i => match fs[i]? with
  | some f => f.offset == i && P.cellsOf f.type == 1 && (match P.underlying f.type with | some (.int .i64) => true | _ => false)
  | none => false

theorem intFields_at {fs : Array Field} (h : intFields P fs = true) (i : Nat) (f : Field) (hf : fs[i]? = some f) : f.offset = i ∧ P.cellsOf f.type = 1 ∧ P.underlying f.type = some (.int .i64) := by
  have hi : i < fs.size := (Array.getElem?_eq_some_iff.1 hf).1
  have := List.all_eq_true.1 h i (by simpa using hi)
  simp only [hf, Bool.and_eq_true, beq_iff_eq] at this
  refine ⟨this.1.1, this.1.2, ?_⟩
  have h2 := this.2
  split at h2
  · assumption
  · cases h2

/-- A struct of ints, by value. -/
theorem open_int_struct {r : Reach} {b0 : Nat} {t : TypeId} {fs : Array Field} {v : Value} {d : DataW H} {p : List MemPlace} (hs : P.underlying t = some (.struct fs)) (hone : intFields P fs = true) (hC : P.cellsOf t = fs.size)
    (hv : Value.okWide P w r b0 t v) (h : DataW.Trod enc P w base spare held t v d p) : ∃ ns : List Int, ns.length = fs.size ∧ v = .agg (ns.map fun n => Value.int .i64 n).toArray ∧ ∀ n ∈ ns, (Lit.int .i64 n).wf = true := by
  obtain ⟨cs, rfl, hsz⟩ := okWide_struct hs hv
  rw [hC] at hsz
  obtain ⟨fuel, hf⟩ := h
  obtain ⟨xs, n, _, hx, hlen, hxl, hg⟩ := DataW.trod_struct hs hf
  have hcell : ∀ i (hi : i < cs.size), ∃ n : Int, cs[i] = .int .i64 n ∧ (Lit.int .i64 n).wf = true := by
    intro i hi
    have hfi : fs[i]? = some fs[i] := Array.getElem?_eq_getElem (by omega)
    obtain ⟨ho, hk, hu⟩ := intFields_at hone i _ hfi
    have h1 := hg i _ hfi
    rw [ho, hk] at h1
    have hcs : (Value.agg cs).cells.toList = cs.toList := rfl
    rw [hcs, List.drop_eq_getElem_cons (by simpa using hi)] at h1
    have hxi : xs[i]? = some (xs[i]'(by omega)) := List.getElem?_eq_getElem (by omega)
    rw [hxi] at h1
    obtain ⟨n, hn, hx⟩ := DataW.trod_int hu h1
    refine ⟨n, by simpa using hn, ?_⟩
    exact hx.2
  refine ⟨cs.toList.map intOf, by simpa using hsz, ?_, fun n hn => ?_⟩
  · congr 1
    rw [List.map_map]
    apply Array.ext
    · simp
    · intro i h1 h2
      obtain ⟨n, hn, _⟩ := hcell i h1
      simp [hn, intOf]
  · obtain ⟨v, hv, rfl⟩ := List.mem_map.1 hn
    obtain ⟨i, hi, he⟩ := List.mem_iff_getElem.1 hv
    obtain ⟨m, hm, hw⟩ := hcell i (by simpa using hi)
    have : v = .int .i64 m := by rw [← he, ← hm]; simp
    rw [this]; exact hw
end
end Go.Proofs.YtnblhjndngpbnaaGreat
