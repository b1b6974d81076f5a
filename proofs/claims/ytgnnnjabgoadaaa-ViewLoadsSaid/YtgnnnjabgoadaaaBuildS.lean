/- What is proved here: (*strings.Builder).String at a builder that holds a byte; keys.Key of a table and no number. -/
import Derived.Test.YtgnnnjabgoadaaaBuild
import Derived.Test.YtgnnnjabgoadaaaPlain
namespace Go.Proofs.Ytgnnnjabgoadaaa
open Go.RowKit

set_option maxRecDepth 100000 in
set_option maxHeartbeats 1000000 in
theorem string_any (B b : Nat) (l : List UInt8) (w : World) (h : IsB w B b l) (h0 : l ≠ []) :
    Calls Try.prog 60 #[.pointer (some ⟨b, 0, none⟩)] w fun e w' => e = .returned (.string ⟨l.toArray⟩) ∧ Below B w w' := by
  obtain ⟨p, hB, v, hbk, hown, hne⟩ : ∃ p, Lib.BuilderAt 94 5 B b p (Lib.byteCells l) w := by
    rcases h with h | h
    · exact ⟨_, h⟩
    · exact ⟨_, h⟩
  have hl0 : l.length ≠ 0 := by simpa using h0
  rw [Lib.byteCells_length] at hown
  obtain ⟨g, cap, cur, rfl, hbg, hg, hnc, hcm, hcs, htake⟩ : ∃ g cap cur, v = .slice (some ⟨g, 0, none⟩) l.length cap ∧ B ≤ g ∧ w.heap[g]? = some (.cells cur 5 (0, 0)) ∧ l.length ≤ cap ∧ cap ≤ maxLen ∧ cur.size = cap * 1 ∧ cur.toList.take (l.length * 1) = Lib.byteCells l := by
    rcases hown.2 with ⟨_, hz⟩ | ⟨g, cap, cur, hv, r⟩
    · exact absurd hz hl0
    · exact ⟨g, cap, cur, hv, r⟩
  have c1 : w.drew.cell? ⟨b, 1, none⟩ = some (.slice (some ⟨g, 0, none⟩) l.length cap) := by
    have : w.drew.heap[b]? = some (.cells #[p, .slice (some ⟨g, 0, none⟩) l.length cap] 94 (0, 0)) := hbk
    rw [cell_of_row _ _ _ _ _ _ this]; rfl
  have hSD : (Builtin.unsafeSliceData_ #[36] 117 #[.slice (some ⟨g, 0, none⟩) l.length cap]).run Try.prog w.drew = .ok (.pointer (some ⟨g, 0, none⟩)) w.drew :=
    Lib.run_unsafeSliceData_row _ _ _ _ _ _ (by omega)
  have hUS : (Builtin.unsafeString_ #[117, 3] 9 #[.pointer (some ⟨g, 0, none⟩), .int .i64 l.length]).run Try.prog w.drew = .ok (.string ⟨l.toArray⟩) (w.drew.freeze ⟨g, 0, none⟩ l.length) := by
    refine Lib.run_unsafeString_row w.drew 117 3 9 5 (by kernel_rfl) (by kernel_rfl) g cur.size (by have hg' : w.drew.heap[g]? = some (.cells cur 5 (0, 0)) := hg; simp [World.shape?, hg']) l h0 (by omega) (by unfold maxLen at hcm; omega) ?_
    intro j x hx
    have := hown.cells (g := g) rfl j (.int .u8 x.toNat) (by simp [Lib.byteCells, hx])
    exact this
  have HE : Hid (Below B w (w.drew.freeze ⟨g, 0, none⟩ l.length)) := by
    refine ⟨?_, ?_, ?_, ?_, fun k hk => ?_⟩
    · unfold World.freeze; split <;> rfl
    · unfold World.freeze; split <;> rfl
    · unfold World.freeze; split <;> rfl
    · unfold World.freeze
      split
      · exact Nat.le_refl _
      · show w.heap.size ≤ (w.heap.modify g _).size
        simp
    · unfold World.freeze
      split
      · rfl
      · simp only [Array.getElem?_modify]
        rw [if_neg (by omega)]; rfl
  clear h hbk hown hne hg hcs htake hcm hnc
  go_enter Try.func60, Try.ntmps60
  go_wp2
  go_region
  all_goals (go_wp2; go_ret; exact ⟨rfl, HE.out⟩)

/-- The key of a table alone. -/
def key1 (t : UInt8) : ByteArray := ⟨#[t]⟩

set_option maxRecDepth 100000 in
set_option maxHeartbeats 1000000 in
theorem key_table (t : UInt8) (ht : 1 ≤ t.toNat) (w : World) :
    Calls Try.prog 35 #[.int .i64 t.toNat, .slice none 0 0] w fun e w' => e = .returned (.string (key1 t)) ∧ Below w.heap.size w w' := by
  have ht2 : t.toNat ≤ 255 := by have := t.toNat_lt; omega
  have hB0 : Hid (∀ w1, w1 = w.alloc (.cells #[.pointer none, .slice none 0 0] 94) → IsB w1 w.heap.size w.heap.size []) := fun w1 hw => by
    subst hw
    exact .inl ⟨Nat.le_refl _, _, heap_alloc_new w _, ⟨by simp [Lib.byteCells], .inl ⟨rfl, rfl⟩⟩, by simp [Value.ownBlock]⟩
  have hb0 : Hid (Below w.heap.size w (w.alloc (.cells #[.pointer none, .slice none 0 0] 94))) := (Below.refl _ w).alloc (Nat.le_refl _) _
  have hsz : Hid (w.heap.size ≤ (w.alloc (.cells #[.pointer none, .slice none 0 0] 94)).heap.size) := by show _ ≤ _; simp
  have HW := Lib.hid (writeByte_any w.heap.size w.heap.size [] t (w.alloc (.cells #[.pointer none, .slice none 0 0] 94)) (hB0.out _ rfl) (by simp) hsz.out)
  have HS : Hid (∀ w1, IsB w1 w.heap.size w.heap.size [t] → Below w.heap.size (w.alloc (.cells #[.pointer none, .slice none 0 0] 94)) w1 → Calls Try.prog 60 #[.pointer (some ⟨w.heap.size, 0, none⟩)] w1 fun e w' => e = .returned (.string (key1 t)) ∧ Below w.heap.size w w') := fun w1 h1 hb1 =>
    (string_any w.heap.size w.heap.size [t] w1 h1 (by simp)).mono fun e w' ⟨he, hb⟩ => ⟨he, (hb0.out.trans hb1).trans hb⟩
  generalize key1 t = kb at *
  generalize hm : t.toNat = m at *
  have HM := Lib.hid hm
  clear hm
  go_enter Try.func35, Try.ntmps35
  go_wp2_with fail
  refine HW.out.mono ?_
  rintro e w1 ⟨rfl, h1, hb1⟩
  have HS1 := Lib.hid (HS.out w1 h1 hb1)
  clear h1 hb1
  go_wp2_with fail
  refine wp_loop_rounds 1 ?_
  rw [rounds_succ]
  go_wp2_with (go_at_call 60; refine HS1.out.mono ?_; rintro e w' ⟨rfl, hb⟩)
  go_ret
  exact ⟨rfl, hb⟩
end Go.Proofs.Ytgnnnjabgoadaaa
