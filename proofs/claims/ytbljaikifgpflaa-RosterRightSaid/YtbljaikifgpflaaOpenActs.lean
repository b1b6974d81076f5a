/- What is proved here: a slice of the roster laws' acts that came in, opened. -/
import Derived.Test.YtbljaikifgpflaaOpenAct
import Derived.Test.YtbljaikifgpflaaRActsW
import Derived.ChangeSlices
namespace Go.Proofs.Ytbljaikifgpflaa
open Go.RowKit Go.ChangeShapes Go.WideShapes Go.ChangeAt

section
variable {H : Type} {enc : TypeId × Value → H} {P : Program} {w : World} {base : Nat} {spare : Nat → Bool} {held : Bool}

/-- A struct of ints, in memory. -/
theorem open_int_cells {fuel : Nat} {t : TypeId} {fs : Array Field} {cs : List Value} {x : DataW H × List MemPlace} (hs : P.underlying t = some (.struct fs)) (hone : intFields P fs = true) (hC : P.cellsOf t = fs.size)
    (h : DataW.trod enc P w base spare held fuel t cs = some x) : ∃ ns : List Int, ns.length = fs.size ∧ cs = ns.map (fun n => Value.int .i64 n) ∧ ∀ n ∈ ns, (Lit.int .i64 n).wf = true := by
  obtain ⟨xs, n, _, hx, hlen, hxl, hg⟩ := DataW.trod_struct hs h
  rw [hC] at hlen
  have hcell : ∀ i (hi : i < cs.length), ∃ n : Int, cs[i] = .int .i64 n ∧ (Lit.int .i64 n).wf = true := by
    intro i hi
    have hfi : fs[i]? = some fs[i] := Array.getElem?_eq_getElem (by omega)
    obtain ⟨ho, hk, hu⟩ := intFields_at hone i _ hfi
    have h1 := hg i _ hfi
    rw [ho, hk] at h1
    rw [List.drop_eq_getElem_cons hi] at h1
    have hxi : xs[i]? = some (xs[i]'(by omega)) := List.getElem?_eq_getElem (by omega)
    rw [hxi] at h1
    obtain ⟨n, hn, hx⟩ := DataW.trod_int hu h1
    have hn2 : cs[i] :: List.take 0 (List.drop (i + 1) cs) = [.int .i64 n] := hn
    exact ⟨n, (List.cons.inj hn2).1, hx.2⟩
  refine ⟨cs.map intOf, by simpa using hlen, ?_, fun n hn => ?_⟩
  · rw [List.map_map]
    apply List.ext_getElem
    · simp
    · intro i h1 h2
      obtain ⟨n, hn, _⟩ := hcell i h1
      simp [hn, intOf]
  · obtain ⟨v, hv, rfl⟩ := List.mem_map.1 hn
    obtain ⟨i, hi, he⟩ := List.mem_iff_getElem.1 hv
    obtain ⟨m, hm, hw⟩ := hcell i hi
    have : v = .int .i64 m := by rw [← he, ← hm]
    rw [this]; exact hw
end

section
variable {H : Type} {enc : TypeId × Value → H} {w : World} {base : Nat} {spare : Nat → Bool} {held : Bool}

def actOf (w : World) (base : Nat) (a : Addr) (i : Nat) : Int × Int × Int := match w.cells? base (a.add (i * 3)) 3 with
  | some [.int _ x, .int _ y, .int _ z] => (x, y, z)
  | _ => (0, 0, 0)

set_option maxRecDepth 100000 in
theorem open_actsV {r : Reach} {b0 : Nat} {v : Value} {d : DataW H} {p : List MemPlace} (hv : Value.okWide Try.prog w r b0 22 v) (h : DataW.Trod enc Try.prog w base spare held 22 v d p) :
    ∃ (l : List (Int × Int × Int)) (a : Option Addr) (c : Nat), v = .slice a l.length c ∧ ActsIn w a l := by
  obtain ⟨a, len, cap, rfl⟩ := okWide_slice Try.underlying22 hv
  obtain ⟨fuel, hf⟩ := h
  have hc3 : Try.prog.cellsOf 32 = 3 := by kernel_rfl
  rcases DataW.trod_slice Try.underlying22 hf with ⟨h1, _⟩ | ⟨a', len', cap', elems, rest, n, _, h1, h2, _, _, _, hlen, hel, _⟩
  · have h2 : [Value.slice a len cap] = [.slice none 0 0] := h1
    cases h2
    exact ⟨[], none, 0, rfl, fun k x hx => (by simp at hx), fun x hx => (by cases hx)⟩
  · have h3 : [Value.slice a len cap] = [.slice (some a') len' cap'] := h1
    cases h3
    rw [hc3] at hel
    have each : ∀ i, i < len → ∃ x y z : Int, w.cells? base (a'.add (i * 3)) 3 = some [.int .i64 x, .int .i64 y, .int .i64 z] ∧ y < 9223372036854775808 ∧ z < 9223372036854775808 := fun i hi => by
      have := hel i hi
      rw [List.getElem?_eq_getElem (by omega : i < elems.length), Option.bind_eq_some_iff] at this
      obtain ⟨cs, hcs, ht⟩ := this
      obtain ⟨ns, hl, rfl, hw⟩ := open_int_cells Try.underlying32 (by kernel_rfl) (by kernel_rfl) ht
      match ns, hl with
      | [x, y, z], _ => exact ⟨x, y, z, hcs, (wf_lt (hw y (by simp))).2, (wf_lt (hw z (by simp))).2⟩
    refine ⟨(List.range len).map (actOf w base a'), some a', cap, by simp, fun k x hx => ?_, fun x hx => ?_⟩
    · rw [List.getElem?_map, Option.map_eq_some_iff] at hx
      obtain ⟨i, hi, rfl⟩ := hx
      have hk : k < len := by have := (List.getElem?_eq_some_iff.1 hi).1; simpa using this
      have hik : i = k := by rw [List.getElem?_range hk] at hi; exact (Option.some.inj hi).symm
      subst hik
      obtain ⟨x, y, z, hcs, _⟩ := each i hk
      have he : actOf w base a' i = (x, y, z) := by unfold actOf; rw [hcs]
      obtain ⟨_, _, hc⟩ := World.cells?_some hcs
      rw [he]
      exact ⟨a', rfl, hc 0 (by omega), hc 1 (by omega), hc 2 (by omega)⟩
    · obtain ⟨i, hi, rfl⟩ := List.mem_map.1 hx
      obtain ⟨x, y, z, hcs, h1, h2⟩ := each i (List.mem_range.1 hi)
      have he : actOf w base a' i = (x, y, z) := by unfold actOf; rw [hcs]
      rw [he]; exact ⟨h1, h2⟩
end
end Go.Proofs.Ytbljaikifgpflaa
