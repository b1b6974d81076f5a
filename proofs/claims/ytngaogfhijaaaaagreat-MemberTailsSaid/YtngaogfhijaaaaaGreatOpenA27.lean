/- What is proved here: the member laws' acts, structs of five ints, opened: by value, and a slice of them that came in. -/
import Derived.Test.YtngaogfhijaaaaaGreatOpenG
import Derived.Test.YtngaogfhijaaaaaGreatMemW
namespace Go.Proofs.YtngaogfhijaaaaaGreat
open Go.RowKit Go.ChangeShapes Go.WideShapes Go.ChangeAt

section
variable {H : Type} {enc : TypeId × Value → H} {w : World} {base : Nat} {spare : Nat → Bool} {held : Bool}
set_option maxRecDepth 100000 in
theorem open_a27 {r : Reach} {b0 : Nat} {v : Value} {d : DataW H} {p : List MemPlace} (hv : Value.okWide Tryz.prog w r b0 30 v) (h : DataW.Trod enc Tryz.prog w base spare held 30 v d p) :
    ∃ k x y z u : Int, v = .agg #[.int .i64 k, .int .i64 x, .int .i64 y, .int .i64 z, .int .i64 u] ∧ x < 9223372036854775808 ∧ y < 9223372036854775808 := by
  obtain ⟨ns, hl, rfl, hw⟩ := open_int_struct Tryz.underlying30 (by kernel_rfl) (by kernel_rfl) hv h
  match ns, hl with
  | [k, x, y, z, u], _ => exact ⟨k, x, y, z, u, rfl, (wf_lt (hw x (by simp))).2, (wf_lt (hw y (by simp))).2⟩

def actOf27 (w : World) (base : Nat) (a : Addr) (i : Nat) : Int × Int × Int × Int × Int := match w.cells? base (a.add (i * 5)) 5 with
  | some [.int _ k, .int _ x, .int _ y, .int _ z, .int _ u] => (k, x, y, z, u)
  | _ => (0, 0, 0, 0, 0)

set_option maxRecDepth 100000 in
theorem open_a27V {r : Reach} {b0 : Nat} {v : Value} {d : DataW H} {p : List MemPlace} (hv : Value.okWide Tryz.prog w r b0 22 v) (h : DataW.Trod enc Tryz.prog w base spare held 22 v d p) :
    ∃ (l : List (Int × Int × Int × Int × Int)) (a : Option Addr) (c : Nat), v = .slice a l.length c ∧ Acts5In w a l := by
  obtain ⟨a, len, cap, rfl⟩ := okWide_slice Tryz.underlying22 hv
  obtain ⟨fuel, hf⟩ := h
  have hc3 : Tryz.prog.cellsOf 30 = 5 := by kernel_rfl
  rcases DataW.trod_slice Tryz.underlying22 hf with ⟨h1, _⟩ | ⟨a', len', cap', elems, rest, n, _, h1, h2, _, _, _, hlen, hel, _⟩
  · have h2 : [Value.slice a len cap] = [.slice none 0 0] := h1
    cases h2
    exact ⟨[], none, 0, rfl, fun k x hx => (by simp at hx), fun x hx => (by cases hx)⟩
  · have h3 : [Value.slice a len cap] = [.slice (some a') len' cap'] := h1
    cases h3
    rw [hc3] at hel
    have each : ∀ i, i < len → ∃ k x y z u : Int, w.cells? base (a'.add (i * 5)) 5 = some [.int .i64 k, .int .i64 x, .int .i64 y, .int .i64 z, .int .i64 u] ∧ x < 9223372036854775808 ∧ y < 9223372036854775808 := fun i hi => by
      have := hel i hi
      rw [List.getElem?_eq_getElem (by omega : i < elems.length), Option.bind_eq_some_iff] at this
      obtain ⟨cs, hcs, ht⟩ := this
      obtain ⟨ns, hl, rfl, hw⟩ := open_int_cells Tryz.underlying30 (by kernel_rfl) (by kernel_rfl) ht
      match ns, hl with
      | [k, x, y, z, u], _ => exact ⟨k, x, y, z, u, hcs, (wf_lt (hw x (by simp))).2, (wf_lt (hw y (by simp))).2⟩
    refine ⟨(List.range len).map (actOf27 w base a'), some a', cap, by simp, fun k x hx => ?_, fun x hx => ?_⟩
    · rw [List.getElem?_map, Option.map_eq_some_iff] at hx
      obtain ⟨i, hi, rfl⟩ := hx
      have hk : k < len := by have := (List.getElem?_eq_some_iff.1 hi).1; simpa using this
      have hik : i = k := by rw [List.getElem?_range hk] at hi; exact (Option.some.inj hi).symm
      subst hik
      obtain ⟨k0, x, y, z, u, hcs, _⟩ := each i hk
      have he : actOf27 w base a' i = (k0, x, y, z, u) := by unfold actOf27; rw [hcs]
      obtain ⟨_, _, hc⟩ := World.cells?_some hcs
      rw [he]
      exact ⟨a', rfl, hc 0 (by omega), hc 1 (by omega), hc 2 (by omega), hc 3 (by omega), hc 4 (by omega)⟩
    · obtain ⟨i, hi, rfl⟩ := List.mem_map.1 hx
      obtain ⟨k0, x, y, z, u, hcs, h1, h2⟩ := each i (List.mem_range.1 hi)
      have he : actOf27 w base a' i = (k0, x, y, z, u) := by unfold actOf27; rw [hcs]
      rw [he]; exact ⟨h1, h2⟩
theorem wf_u16 {n : Int} (h : (Lit.int .u16 n).wf = true) : 0 ≤ n ∧ n < 65536 := by
  have e1 : IntKind.u16.min = 0 := rfl
  have e2 : IntKind.u16.max = 65535 := rfl
  simp only [Lit.wf, Bool.and_eq_true, decide_eq_true_eq, e1, e2] at h
  omega
end
end Go.Proofs.YtngaogfhijaaaaaGreat
