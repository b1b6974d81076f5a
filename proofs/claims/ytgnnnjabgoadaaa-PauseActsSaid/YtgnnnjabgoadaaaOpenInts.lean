/- What is proved here: a slice of ints that came in, opened. -/
import Derived.Test.YtgnnnjabgoadaaaRow
import Derived.Test.YtgnnnjabgoadaaaKeyG
import Derived.ChangeSlices
namespace Go.Proofs.Ytgnnnjabgoadaaa
open Go.RowKit Go.ChangeShapes Go.WideShapes Go.ChangeAt

section
variable {H : Type} {enc : TypeId × Value → H} {w : World} {base : Nat} {spare : Nat → Bool} {held : Bool}
set_option maxRecDepth 100000 in
theorem open_intsV {r : Reach} {b0 : Nat} {v : Value} {d : DataW H} {p : List MemPlace} (hv : Value.okWide Try.prog w r b0 55 v) (h : DataW.Trod enc Try.prog w base spare held 55 v d p) :
    ∃ l : List Int, IntsAt w v l ∧ ∀ n ∈ l, (Lit.int .i64 n).wf = true := by
  obtain ⟨a, len, cap, rfl⟩ := okWide_slice Try.underlying55 hv
  obtain ⟨fuel, hf⟩ := h
  rcases open_ints Try.underlying55 Try.underlying3 (by kernel_rfl) hf with ⟨h1, _⟩ | ⟨a', len', cap', zs, h1, _, h3, _, h5, _, h7, h8⟩
  · have h2 : [Value.slice a len cap] = [.slice none 0 0] := h1
    cases h2
    exact ⟨[], .inl ⟨rfl, rfl⟩, by simp⟩
  · have h2 : [Value.slice a len cap] = [.slice (some a') len' cap'] := h1
    cases h2
    have hz : len ≤ zs.length := by rw [h5]; split <;> omega
    refine ⟨zs.take len, .inr ⟨a', cap, by rw [List.length_take, Nat.min_eq_left hz], fun j x hj => ?_⟩, fun n hn => h8 n (List.mem_of_mem_take hn)⟩
    rw [List.getElem?_take] at hj
    split at hj
    · have hjl : j < zs.length := by omega
      rw [h7 j hjl]
      rw [List.getD, hj]; rfl
    · cases hj

theorem wf_lt {n : Int} (h : (Lit.int .i64 n).wf = true) : -9223372036854775808 ≤ n ∧ n < 9223372036854775808 := by
  have e1 : IntKind.i64.min = -9223372036854775808 := rfl
  have e2 : IntKind.i64.max = 9223372036854775807 := rfl
  simp only [Lit.wf, Bool.and_eq_true, decide_eq_true_eq, e1, e2] at h
  omega
end
end Go.Proofs.Ytgnnnjabgoadaaa
