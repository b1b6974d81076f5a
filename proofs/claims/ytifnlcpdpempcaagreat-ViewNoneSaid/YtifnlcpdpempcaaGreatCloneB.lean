/- What is proved here: a clone of bytes; bytes made a string. Their condition: fewer than 10^12 bytes. -/
import Derived.Test.YtifnlcpdpempcaaGreatUnder
import Derived.Test.YtifnlcpdpempcaaGreatRNum
namespace Go.Proofs.YtifnlcpdpempcaaGreat
open Go.RowKit

/-- A new slice of bytes is returned. -/
def RetBytes (w : World) (l : List UInt8) (e : Ending) (w' : World) : Prop := ∃ v, e = .returned v ∧ Own w' 5 1 v l.length (bytesV l) ∧ (∀ g, v.ownBlock = some g → w.heap.size ≤ g) ∧ Below w.heap.size w w'

set_option maxRecDepth 100000 in
set_option maxHeartbeats 1000000 in
theorem cloneB_any (w : World) (y : Value) (l : List UInt8) (h : Src w 1 y l.length (bytesV l)) (hl : l.length < 1000000000000) : Calls Tryz.prog 124 #[y] w (RetBytes w l) := by
  have hS := h
  obtain ⟨_, a, c, rfl, hc⟩ := h
  cases a with
  | none =>
    have he : l = [] := by
      cases l with
      | nil => rfl
      | cons x r => obtain ⟨_, e, _⟩ := hc 0 _ rfl; cases e
    subst he
    have HE : Hid (RetBytes w [] (.returned (.slice none 0 0)) w) := ⟨_, rfl, Own.nil _ _ _, fun g hg => by simp [Value.ownBlock] at hg, Below.refl _ _⟩
    have hsn := fun (w : World) => Lib.run_eql_slice_nil (P := Tryz.prog) w 87 5 none 0 c 0 0 bytesT.und
    rw [List.length_nil]
    generalize RetBytes w [] = R at *
    clear hS hc
    go_enter Tryz.func124, Tryz.ntmps124
    go_wp2
    exact HE.out
  | some ad =>
    have hown : Own (w.alloc (.cells #[] 5)) 5 1 (.slice (some ⟨w.heap.size, 0, none⟩) 0 0) 0 [] :=
      ⟨rfl, .inr ⟨w.heap.size, 0, #[], rfl, heap_alloc_new w _, Nat.le_refl _, Nat.zero_le _, Nat.zero_le _, rfl⟩⟩
    have hS2 := hS.below (w' := w.alloc (.cells #[] 5)) ((Below.refl _ w).alloc (Nat.le_refl _) _)
    have HE : Hid (∀ v' w', Appended (w.alloc (.cells #[] 5)) 5 1 (.slice (some ⟨w.heap.size, 0, none⟩) 0 0) 0 l.length [] (bytesV l) v' w' → RetBytes w l (.returned v') w') := fun v' w' hA => by
      refine ⟨v', rfl, by simpa using hA.own, fun g hg => ?_, ((Below.refl _ w).alloc (Nat.le_refl _) _).grown hA.grown (by simp) (fun k hk => by simp [Value.ownBlock] at hk; omega)⟩
      rcases hA.block g hg with h | h
      · simp [Value.ownBlock] at h; omega
      · simp at h; omega
    have hmx : 0 + l.length ≤ maxLen := by unfold maxLen; omega
    have hone := bytesV_one l
    generalize RetBytes w l = R at *
    generalize bytesV l = xs at *
    generalize l.length = n at *
    have hsn := fun (w : World) => Lib.run_eql_slice_nil (P := Tryz.prog) w 87 5 (some ad) n c 0 0 bytesT.und
    clear hS hc
    go_enter Tryz.func124, Tryz.ntmps124
    go_wp2_with (at_builtin; refine wpList_append_src rfl _ _ 87 87 rfl bytesT bytesT _ 0 [] rfl hown _ n xs rfl hS2 hone hmx (by omega) ?_)
    intro v' w' hA
    have hR := HE.out v' w' hA
    go_wp2
    exact hR

theorem run_conv_nil (w : World) (c : Nat) : (convert 87 9 (.slice none 0 c)).run Tryz.prog w = .ok (.string ⟨#[]⟩) w := by
  rw [run_convert_bytes_string _ _ _ 5 _ _ _ (by kernel_rfl) (by kernel_rfl) (by kernel_rfl)]
  rfl

theorem run_conv_any {w : World} {v : Value} {l : List UInt8} (h : Own w 5 1 v l.length (bytesV l)) : (convert 87 9 v).run Tryz.prog w = .ok (.string ⟨l.toArray⟩) w := by
  have h' := h
  rcases h.2 with ⟨rfl, h0⟩ | ⟨g, c, cur, rfl, _⟩
  · have : l = [] := List.eq_nil_of_length_eq_zero h0
    subst this
    exact run_conv_nil w 0
  · exact run_conv_own h'
end Go.Proofs.YtifnlcpdpempcaaGreat
