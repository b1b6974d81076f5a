/- What is proved here: an act of the roster's laws, a struct of three ints, opened, by value. -/
import Derived.Test.YtbljaikifgpflaaStructs
import Derived.Test.YtbljaikifgpflaaOpenInts
namespace Go.Proofs.Ytbljaikifgpflaa
open Go.RowKit Go.ChangeShapes Go.WideShapes Go.ChangeAt

section
variable {H : Type} {enc : TypeId × Value → H} {w : World} {base : Nat} {spare : Nat → Bool} {held : Bool}
set_option maxRecDepth 100000 in
theorem open_act {r : Reach} {b0 : Nat} {v : Value} {d : DataW H} {p : List MemPlace} (hv : Value.okWide Try.prog w r b0 32 v) (h : DataW.Trod enc Try.prog w base spare held 32 v d p) :
    ∃ x y z : Int, v = .agg #[.int .i64 x, .int .i64 y, .int .i64 z] ∧ y < 9223372036854775808 ∧ z < 9223372036854775808 := by
  obtain ⟨ns, hl, rfl, hw⟩ := open_int_struct Try.underlying32 (by kernel_rfl) (by kernel_rfl) hv h
  match ns, hl with
  | [x, y, z], _ => exact ⟨x, y, z, rfl, (wf_lt (hw y (by simp))).2, (wf_lt (hw z (by simp))).2⟩
end
end Go.Proofs.Ytbljaikifgpflaa
