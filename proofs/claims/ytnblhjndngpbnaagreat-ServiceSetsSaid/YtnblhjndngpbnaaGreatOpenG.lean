/- What is proved here: the cells of a struct of ints in memory, opened. No program's function is named. No condition. -/
import Derived.Test.YtnblhjndngpbnaaGreatStructs
import Derived.Test.YtnblhjndngpbnaaGreatOpenInts
import Derived.ChangeSlices
namespace Go.Proofs.YtnblhjndngpbnaaGreat
open Go.RowKit Go.ChangeShapes Go.WideShapes Go.ChangeAt

section
variable {H : Type} {enc : TypeId × Value → H} {P : Program} {w : World} {base : Nat} {spare : Nat → Bool} {held : Bool}

/-- A struct of ints, in memory. -/
theorem open_int_cells {fuel : Nat} {t : TypeId} {fs : Array Field} {cs : List Value} {x : DataW H × List MemPlace} (hs : P.underlying t = some (.struct fs)) (hone : intFields P fs = true) (hC : P.cellsOf t = fs.size)
    (h : DataW.trod enc P w base spare held fuel t cs = some x) : ∃ ns : List Int, ns.length = fs.size ∧ cs = ns.map (fun n => Value.int .i64 n) ∧ ∀ n ∈ ns, (Lit.int .i64 n).wf = true := by
  obtain ⟨xs, n, _, hx, hlen, hxl, hg⟩ := DataW.trod_struct hs h
  rw [hC] at hlen
  have hcell : ∀ i (hi : i < cs.length), ∃ n : Int, cs[i] = .int .i64 n ∧ (Lit.int .i64 n).wf = true := by
    intro i hi
    have hfi : fs[i]? = some fs[i] := Array.getElem?_eq_getElem (by omega)
    obtain ⟨ho, hk, hu⟩ := intFields_at hone i _ hfi
    have h1 := hg i _ hfi
    rw [ho, hk] at h1
    rw [List.drop_eq_getElem_cons hi] at h1
    have hxi : xs[i]? = some (xs[i]'(by omega)) := List.getElem?_eq_getElem (by omega)
    rw [hxi] at h1
    obtain ⟨n, hn, hx⟩ := DataW.trod_int hu h1
    have hn2 : cs[i] :: List.take 0 (List.drop (i + 1) cs) = [.int .i64 n] := hn
    exact ⟨n, (List.cons.inj hn2).1, hx.2⟩
  refine ⟨cs.map intOf, by simpa using hlen, ?_, fun n hn => ?_⟩
  · rw [List.map_map]
    apply List.ext_getElem
    · simp
    · intro i h1 h2
      obtain ⟨n, hn, _⟩ := hcell i h1
      simp [hn, intOf]
  · obtain ⟨v, hv, rfl⟩ := List.mem_map.1 hn
    obtain ⟨i, hi, he⟩ := List.mem_iff_getElem.1 hv
    obtain ⟨m, hm, hw⟩ := hcell i hi
    have : v = .int .i64 m := by rw [← he, ← hm]
    rw [this]; exact hw
end
end Go.Proofs.YtnblhjndngpbnaaGreat
