/- What is proved here: the alloc laws' act, opened: an int, four ints, a change, an amount. -/
import Derived.Test.YtngaogfhijaaaaaGreatOpenG
import Derived.Test.YtngaogfhijaaaaaGreatAllocZ
import Derived.OpenShut
namespace Go.Proofs.YtngaogfhijaaaaaGreat
open Go.RowKit Go.ChangeShapes Go.WideShapes Go.ChangeAt

section
variable {H : Type} {enc : TypeId × Value → H} {w : World} {base : Nat} {spare : Nat → Bool} {held : Bool}

theorem wf_u64 {n : Int} (h : (Lit.int .u64 n).wf = true) : ∃ m : Nat, n = m := by
  have e1 : IntKind.u64.min = 0 := rfl
  simp only [Lit.wf, Bool.and_eq_true, decide_eq_true_eq, e1] at h
  exact ⟨n.toNat, by omega⟩

set_option maxRecDepth 100000 in
/-- Four words. -/
theorem open_words {fuel : Nat} {cs : List Value} {x : DataW H × List MemPlace} (h : DataW.trod enc Tryz.prog w base spare held fuel 65 cs = some x) : ∃ y : W4, cs = (uL y).toList := by
  have hc1 : Tryz.prog.cellsOf 63 = 1 := by kernel_rfl
  have hc4 : Tryz.prog.cellsOf 65 = 4 := by kernel_rfl
  obtain ⟨xs, m, _, _, hlen, hxl, hf⟩ := DataW.trod_array Tryz.underlying65 h
  rw [hc4] at hlen
  match cs, hlen, xs, hxl with
  | [c0, c1, c2, c3], _, [y0, y1, y2, y3], _ =>
    have h0 := hf 0 (by omega)
    have h1 := hf 1 (by omega)
    have h2 := hf 2 (by omega)
    have h3 := hf 3 (by omega)
    simp [hc1] at h0 h1 h2 h3
    obtain ⟨n0, e0, _, s0⟩ := DataW.trod_int Tryz.underlying63 h0
    obtain ⟨n1, e1, _, s1⟩ := DataW.trod_int Tryz.underlying63 h1
    obtain ⟨n2, e2, _, s2⟩ := DataW.trod_int Tryz.underlying63 h2
    obtain ⟨n3, e3, _, s3⟩ := DataW.trod_int Tryz.underlying63 h3
    obtain ⟨m0, rfl⟩ := wf_u64 s0
    obtain ⟨m1, rfl⟩ := wf_u64 s1
    obtain ⟨m2, rfl⟩ := wf_u64 s2
    obtain ⟨m3, rfl⟩ := wf_u64 s3
    simp only [List.cons.injEq, and_true] at e0 e1 e2 e3
    subst e0 e1 e2 e3
    exact ⟨(m0, m1, m2, m3), rfl⟩

set_option maxRecDepth 100000 in
/-- A change. -/
theorem open_change {fuel : Nat} {cs : List Value} {x : DataW H × List MemPlace} (h : DataW.trod enc Tryz.prog w base spare held fuel 67 cs = some x) : ∃ (a b : W4) (k d t : Int) (s : Bool), cs = (chL a b k d t s).toList := by
  have hc1 : Tryz.prog.cellsOf 3 = 1 := by kernel_rfl
  have hcb : Tryz.prog.cellsOf 4 = 1 := by kernel_rfl
  have hc4 : Tryz.prog.cellsOf 65 = 4 := by kernel_rfl
  have hc12 : Tryz.prog.cellsOf 67 = 12 := by kernel_rfl
  obtain ⟨xs, m, _, _, hlen, hxl, hf⟩ := DataW.trod_struct Tryz.underlying67 h
  rw [hc12] at hlen
  match cs, hlen, xs, hxl with
  | [c0, c1, c2, c3, c4, c5, c6, c7, c8, c9, c10, c11], _, [y0, y1, y2, y3, y4, y5], _ =>
    have h0 := hf 0 _ rfl
    have h1 := hf 1 _ rfl
    have h2 := hf 2 _ rfl
    have h3 := hf 3 _ rfl
    have h4 := hf 4 _ rfl
    have h5 := hf 5 _ rfl
    simp [hc1, hc4, hcb] at h0 h1 h2 h3 h4 h5
    obtain ⟨a, ea⟩ := open_words h0
    obtain ⟨b, eb⟩ := open_words h1
    obtain ⟨n2, e2, _, _⟩ := DataW.trod_int Tryz.underlying3 h2
    obtain ⟨n3, e3, _, _⟩ := DataW.trod_int Tryz.underlying3 h3
    obtain ⟨n4, e4, _, _⟩ := DataW.trod_int Tryz.underlying3 h4
    obtain ⟨s5, e5, _⟩ := DataW.trod_bool Tryz.underlying4 h5
    simp only [List.cons.injEq, and_true] at ea eb e2 e3 e4 e5
    obtain ⟨rfl, rfl, rfl, rfl⟩ := ea
    obtain ⟨rfl, rfl, rfl, rfl⟩ := eb
    subst e2 e3 e4 e5
    exact ⟨a, b, n2, n3, n4, s5, rfl⟩

set_option maxRecDepth 100000 in
/-- An act, by value. -/
theorem open_a29 {r : Reach} {b0 : Nat} {v : Value} {d : DataW H} {p : List MemPlace} (hv : Value.okWide Tryz.prog w r b0 69 v) (h : DataW.Trod enc Tryz.prog w base spare held 69 v d p) :
    ∃ (kd : Int) (x : I4) (tt mx : W4) (bk dl tl : Int) (sl : Bool) (fv : W4), v = .agg (actL kd x tt mx bk dl tl sl fv) ∧ x.Ok := by
  have hc1 : Tryz.prog.cellsOf 3 = 1 := by kernel_rfl
  have hcI : Tryz.prog.cellsOf 62 = 4 := by kernel_rfl
  have hc4 : Tryz.prog.cellsOf 65 = 4 := by kernel_rfl
  have hc12 : Tryz.prog.cellsOf 67 = 12 := by kernel_rfl
  have hc21 : Tryz.prog.cellsOf 69 = 21 := by kernel_rfl
  obtain ⟨cs, rfl, hsz⟩ := okWide_struct Tryz.underlying69 hv
  obtain ⟨fuel, hf0⟩ := h
  obtain ⟨xs, m, _, _, hlen, hxl, hf⟩ := DataW.trod_struct Tryz.underlying69 hf0
  obtain ⟨l⟩ := cs
  have hcs : (Value.agg ⟨l⟩).cells.toList = l := rfl
  rw [hc21] at hlen
  rw [hcs] at hlen hf
  match l, hlen, xs, hxl with
  | [c0, c1, c2, c3, c4, c5, c6, c7, c8, c9, c10, c11, c12, c13, c14, c15, c16, c17, c18, c19, c20], _, [y0, y1, y2, y3], _ =>
    have h0 := hf 0 _ rfl
    have h1 := hf 1 _ rfl
    have h2 := hf 2 _ rfl
    have h3 := hf 3 _ rfl
    simp [hc1, hc4, hcI, hc12] at h0 h1 h2 h3
    obtain ⟨n0, e0, _, _⟩ := DataW.trod_int Tryz.underlying3 h0
    obtain ⟨ns, hl1, e1, hw⟩ := open_int_cells Tryz.underlying62 (by kernel_rfl) (by kernel_rfl) h1
    obtain ⟨a, b, k, dl, tl, s, e2⟩ := open_change h2
    obtain ⟨fv, e3⟩ := open_words h3
    match ns, hl1 with
    | [x0, x1, x2, x3], _ =>
      simp only [List.map_cons, List.map_nil, List.cons.injEq, and_true] at e0 e1 e2 e3
      obtain ⟨rfl, rfl, rfl, rfl⟩ := e1
      obtain ⟨rfl, rfl, rfl, rfl, rfl, rfl, rfl, rfl, rfl, rfl, rfl, rfl⟩ := e2
      obtain ⟨rfl, rfl, rfl, rfl⟩ := e3
      subst e0
      exact ⟨n0, (x0, x1, x2, x3), a, b, k, dl, tl, s, fv, rfl, fun n hn => (wf_lt (hw n hn)).2⟩
end
end Go.Proofs.YtngaogfhijaaaaaGreat
