/- What is proved here: the end of a law that holds all entries of both stores against each other, and plays its example behind it. Its condition: sizes. -/
import Derived.Test.YtnblhjndngpbnaaGreatTwoX
namespace Go.Proofs.YtnblhjndngpbnaaGreat
open Go.RowKit

/-- The reference's list, where the load finds it. -/
abbrev ListAt (m : Nat) (a : Option Addr) (n c : Nat) (w : World) : Prop := w.cell? ⟨m, 0, none⟩ = some (.slice a n c)

/-- The law's end. -/
def EndDone (LV : FuncId) (w : World) (b m : Nat) (a2 : Option Addr) (n c2 : Nat) (w0 : World) : Prop :=
  Calls Tryz.prog 24 #[.pointer (some ⟨b, 0, none⟩)] w0 fun e w4 => ∃ a4 c4, e = .returned (.slice a4 n c4) ∧ ListAt m a2 n c2 w4 ∧
  Calls Tryz.prog 23 #[.slice a4 n c4, .slice a2 n c2] w4 fun e w5 => e = .returned (.bool true) ∧ ListAt m a2 n c2 w5 ∧
  Calls Tryz.prog LV #[] w5 fun e w6 => e = .returned (.bool true) ∧ ListAt m a2 n c2 w6 ∧ Below w.heap.size w w6

theorem end_done {LV : FuncId} {w wr : World} {b m : Nat} {s : St} {X : List (Nat × Obj)} (hL : ∀ w, Calls Tryz.prog LV #[] w fun e w' => e = .returned (.bool true) ∧ Below w.heap.size w w') (hX : TwoX w b m s s X wr) (hz1 : s.size < 1000000000000) :
    ∃ a2 n c2, ListAt m a2 n c2 wr ∧ EndDone LV w b m a2 n c2 wr.drew := by
  have hT := hX.two
  have hl1 : s.ents.length < 1000000000000 := by unfold St.size at hz1; omega
  obtain ⟨a2, c2, hc, hA⟩ := two_all hT hz1
  have hd : Below wr.heap.size wr wr.drew := ⟨rfl, rfl, rfl, Nat.le_refl _, fun _ _ => rfl⟩
  have cm : ∀ {w1 w2 : World}, ListAt m a2 s.ents.length c2 w1 → Below w1.heap.size w1 w2 → ListAt m a2 s.ents.length c2 w2 := fun {w1 w2} h hb => by
    show w2.cell? _ = _
    rw [hb.cell (p := ⟨m, 0, none⟩) (World.block_lt_of_cell? w1 _ h)]; exact h
  refine ⟨a2, _, c2, hc, ?_⟩
  have hT0 := hT.below hd
  have m0 : ListAt m a2 s.ents.length c2 wr.drew := hc
  refine (hA wr.drew hT0 m0 (two_pairs hT0 m0)).mono fun e w4 ⟨a4, c4, he, h1, h2, h3, h4⟩ => ⟨a4, c4, he, h2, ?_⟩
  refine (same_any w4 a4 a2 c4 c2 s.ents s.ents h3 h4 hl1).mono fun e w5 ⟨he, q, hw⟩ => ?_
  subst hw
  refine ⟨by rw [he]; simp, h2, ?_⟩
  have h5 := h1.drewN q
  refine (hL (w4.drewN q)).mono fun e w6 ⟨he, hb6⟩ => ⟨he, cm (w1 := w4.drewN q) h2 hb6, (h5.below hb6).1⟩
end Go.Proofs.YtnblhjndngpbnaaGreat
