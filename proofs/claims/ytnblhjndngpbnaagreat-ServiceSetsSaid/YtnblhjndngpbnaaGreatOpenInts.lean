/- What is proved here: a slice of ints that came in, opened. a slice of bytes that came in, opened. -/
import Derived.Test.YtnblhjndngpbnaaGreatRow
import Derived.Test.YtnblhjndngpbnaaGreatNum
import Derived.ChangeSlices
import Derived.Test.YtnblhjndngpbnaaGreatRNum
import Derived.Test.YtnblhjndngpbnaaGreatBase
namespace Go.Proofs.YtnblhjndngpbnaaGreat
open Go.RowKit Go.ChangeShapes Go.WideShapes Go.ChangeAt

section
variable {H : Type} {enc : TypeId × Value → H} {w : World} {base : Nat} {spare : Nat → Bool} {held : Bool}
set_option maxRecDepth 100000 in
theorem open_intsV {r : Reach} {b0 : Nat} {v : Value} {d : DataW H} {p : List MemPlace} (hv : Value.okWide Tryz.prog w r b0 32 v) (h : DataW.Trod enc Tryz.prog w base spare held 32 v d p) :
    ∃ l : List Int, IntsAt w v l ∧ ∀ n ∈ l, (Lit.int .i64 n).wf = true := by
  obtain ⟨a, len, cap, rfl⟩ := okWide_slice Tryz.underlying32 hv
  obtain ⟨fuel, hf⟩ := h
  rcases open_ints Tryz.underlying32 Tryz.underlying3 (by kernel_rfl) hf with ⟨h1, _⟩ | ⟨a', len', cap', zs, h1, _, h3, _, h5, _, h7, h8⟩
  · have h2 : [Value.slice a len cap] = [.slice none 0 0] := h1
    cases h2
    exact ⟨[], .inl ⟨rfl, rfl⟩, by simp⟩
  · have h2 : [Value.slice a len cap] = [.slice (some a') len' cap'] := h1
    cases h2
    have hz : len ≤ zs.length := by rw [h5]; split <;> omega
    refine ⟨zs.take len, .inr ⟨a', cap, by rw [List.length_take, Nat.min_eq_left hz], fun j x hj => ?_⟩, fun n hn => h8 n (List.mem_of_mem_take hn)⟩
    rw [List.getElem?_take] at hj
    split at hj
    · have hjl : j < zs.length := by omega
      rw [h7 j hjl]
      rw [List.getD, hj]; rfl
    · cases hj

theorem wf_lt {n : Int} (h : (Lit.int .i64 n).wf = true) : -9223372036854775808 ≤ n ∧ n < 9223372036854775808 := by
  have e1 : IntKind.i64.min = -9223372036854775808 := rfl
  have e2 : IntKind.i64.max = 9223372036854775807 := rfl
  simp only [Lit.wf, Bool.and_eq_true, decide_eq_true_eq, e1, e2] at h
  omega
end
end Go.Proofs.YtnblhjndngpbnaaGreat

namespace Go.Proofs.YtnblhjndngpbnaaGreat
open Go.RowKit Go.ChangeShapes Go.WideShapes Go.ChangeAt

section
variable {H : Type} {enc : TypeId × Value → H} {w : World} {base : Nat} {spare : Nat → Bool} {held : Bool}
set_option maxRecDepth 100000 in
theorem open_bytesV {r : Reach} {b0 : Nat} {v : Value} {d : DataW H} {p : List MemPlace} (hv : Value.okWide Tryz.prog w r b0 103 v) (h : DataW.Trod enc Tryz.prog w base spare held 103 v d p) :
    ∃ (l : List UInt8) (a : Option Addr) (c : Nat), v = .slice a l.length c ∧ Src w 1 (.slice a l.length c) l.length (bytesV l) ∧ l.length ≤ c := by
  obtain ⟨a, len, cap, rfl⟩ := okWide_slice Tryz.underlying103 hv
  obtain ⟨fuel, hf⟩ := h
  rcases open_ints Tryz.underlying103 Tryz.underlying5 (by kernel_rfl) hf with ⟨h1, _⟩ | ⟨a', len', cap', zs, h1, _, h3, _, h5, _, h7, h8⟩
  · have h2 : [Value.slice a len cap] = [.slice none 0 0] := h1
    cases h2
    exact ⟨[], none, 0, rfl, ⟨rfl, none, 0, rfl, fun j u hj => by cases hj⟩, Nat.le_refl _⟩
  · have h2 : [Value.slice a len cap] = [.slice (some a') len' cap'] := h1
    cases h2
    have hz : len ≤ zs.length := by rw [h5]; split <;> omega
    have hl : ((zs.take len).map fun n => UInt8.ofNat n.toNat).length = len := by rw [List.length_map, List.length_take, Nat.min_eq_left hz]
    refine ⟨(zs.take len).map fun n => UInt8.ofNat n.toNat, some a', cap, by rw [hl], ⟨by rw [bytesV_len, Nat.mul_one], some a', cap, rfl, fun j u hj => ⟨a', rfl, ?_⟩⟩, by rw [hl]; exact h3⟩
    unfold bytesV at hj
    rw [List.map_map, List.getElem?_map, Option.map_eq_some_iff] at hj
    obtain ⟨n, hn, rfl⟩ := hj
    rw [List.getElem?_take] at hn
    split at hn
    · have hjl : j < zs.length := by omega
      have hw := h8 n (List.mem_of_getElem? hn)
      have e1 : IntKind.u8.min = 0 := rfl
      have e2 : IntKind.u8.max = 255 := rfl
      simp only [Lit.wf, Bool.and_eq_true, decide_eq_true_eq, e1, e2] at hw
      rw [h7 j hjl, List.getD, hn]
      show some (Value.int .u8 n) = some (Value.int .u8 ((UInt8.ofNat n.toNat).toNat : Int))
      have e3 : (UInt8.ofNat n.toNat).toNat = n.toNat := by
        rw [UInt8.toNat_ofNat']; omega
      rw [e3, Int.toNat_of_nonneg (by omega)]
    · cases hn
end
end Go.Proofs.YtnblhjndngpbnaaGreat
