/- What is proved here: what a loop's body over an iterator may write: rows of ints and boxes of slices of ints alone. No program's function is named. No condition. -/
import Derived.Test.YtnblhjndngpbnaaGreatNoStore
import Derived.Test.YtnblhjndngpbnaaGreatParse
import Derived.RangeFuncNested
import Derived.RangeFuncBound
import Derived.RangeFuncCalls
import Derived.RangeFuncLeaves
import Derived.RangeFuncBox
import Derived.Shelf.Abstract
import Derived.Shelf.RegionOpen
import Derived.WalkKit
import Derived.OwnWalkIn
import Derived.TacticsInMore
import Derived.LoopNIn
import Derived.LoopIn
import Derived.Maps.AppendAt
namespace Go.Proofs.YtnblhjndngpbnaaGreat
open Go.RowKit Go.Shelf

theorem filterMap_step {α β : Type} (f : α → Option β) (l : List α) (i : Nat) (x : α) (h : l[i]? = some x) : (l.take (i + 1)).filterMap f = (l.take i).filterMap f ++ (f x).toList := by
  rw [take_one_more l i x h, List.filterMap_append]
  cases hf : f x <;> simp [hf]
theorem filterMap_len {α β : Type} (f : α → Option β) (l : List α) : (l.filterMap f).length ≤ l.length := List.length_filterMap_le ..

/-- What a loop's body keeps: what lay below n₀, and each row that is neither of ints nor of slices of ints. -/
def KpR (n₀ : Nat) (A B : World) : Prop := Below n₀ A B ∧ ∀ (k : Nat) (cs : Array Value) (t : TypeId) f, A.heap[k]? = some (Obj.cells cs t f) → t ≠ 3 → t ≠ 32 → B.heap[k]? = A.heap[k]?

theorem KpR.refl (n₀ : Nat) (A : World) : KpR n₀ A A := ⟨Below.refl _ _, fun _ _ _ _ _ _ _ => rfl⟩
theorem KpR.trans {n₀ : Nat} {A B C : World} (h : KpR n₀ A B) (k : KpR n₀ B C) : KpR n₀ A C :=
  ⟨h.1.trans k.1, fun j cs t f hj h1 h2 => (k.2 j cs t f (by rw [h.2 j cs t f hj h1 h2]; exact hj) h1 h2).trans (h.2 j cs t f hj h1 h2)⟩
theorem KpR.turn {n₀ : Nat} {w : World} (hn : n₀ ≤ w.heap.size) (W : World) (l : Nat) (o o' : Obj) (hl : w.heap.size ≤ l) (h : W.heap[l]? = some o) (hc : o.isCells = false) (hw : o.isWalk = false) : KpR n₀ W (W.putObj l o') :=
  ⟨belowK_b hn W l o o' hl h hc hw, fun k cs t f hk _ _ => by
    refine World.putObj_heap_other fun e => ?_
    subst e
    rw [h] at hk
    cases hk
    cases hc⟩
theorem KpR.of_below {n₀ : Nat} {A B : World} (h : Below A.heap.size A B) (hn : n₀ ≤ A.heap.size) : KpR n₀ A B :=
  ⟨h.mono hn, fun k _ _ _ hk _ _ => h.block k (Array.getElem?_eq_some_iff.1 hk).1⟩
theorem KpR.own {n₀ : Nat} {A B : World} (h : KpR n₀ A B) {e size : Nat} {v : Value} {n : Nat} {xs : List Value} (ho : Own A e size v n xs) (h1 : e ≠ 3) (h2 : e ≠ 32) : Own B e size v n xs := by
  refine ⟨ho.1, ?_⟩
  rcases ho.2 with h0 | ⟨g, cap, cur, hv, hg, hr⟩
  · exact .inl h0
  · exact .inr ⟨g, cap, cur, hv, by rw [h.2 g _ _ _ hg h1 h2]; exact hg, hr⟩
theorem KpR.box {n₀ : Nat} {A B : World} (h : KpR n₀ A B) {k t : Nat} {v : Value} (ho : Boxed A k t v) (h1 : t ≠ 3) (h2 : t ≠ 32) : Boxed B k t v := (h.2 k _ _ _ ho h1 h2).trans ho
theorem grown_below {A B : World} (h : Below A.heap.size A B) : A.grownBy B none := ⟨h.os, h.tape, h.output, h.size, fun k hk _ => h.block k hk⟩

theorem below_then' {A B C : World} (h : Below A.heap.size A B) (k : Below B.heap.size B C) : Below A.heap.size A C := h.trans (k.mono h.size)
theorem below_undrew {w w' : World} (h : Below w.drew.heap.size w.drew w') : Below w.heap.size w w' := ⟨h.os, h.tape, h.output, h.size, h.block⟩
theorem eachInfo : (Tryz.prog.info? 3).map (fun i => (i.zero, i.size, i.bytes)) = some (some (.int .i64 0), 1, 8) := by kernel_rfl

/-- An append in a body keeps each row of another type. -/
theorem KpR.appended {W w1 : World} {n₀ B : Nat} {v v' : Value} {k : Nat} {xs : List Value} {tmp : Obj} (hB2 : Below n₀ W (w1.setCell ⟨B, 0, none⟩ v'))
    (hv : Boxed W B 32 v) (hrow : W.ownsRow n₀ 3 1 v k xs) (hgrow : (W.alloc tmp).grownBy w1 v.ownBlock) : KpR n₀ W (w1.setCell ⟨B, 0, none⟩ v') := by
  refine ⟨hB2, fun j cs t f hj h1 h2 => ?_⟩
  have hlt : j < W.heap.size := (Array.getElem?_eq_some_iff.1 hj).1
  have hjB : j ≠ B := fun e => by
    subst e
    have := (show W.heap[j]? = _ from hv).symm.trans hj
    simp at this
    exact h2 this.2.1.symm
  have hjo : some j ≠ v.ownBlock := by
    rcases hrow.2 with ⟨rfl, _⟩ | ⟨g, cap, cur, rfl, _, hg, _⟩
    · simp [Value.ownBlock]
    · intro e
      obtain rfl : j = g := by simpa [Value.ownBlock] using e
      have := hg.symm.trans hj
      simp at this
      exact h1 this.2.1.symm
  rw [Below.heap_setCell _ _ _ _ hjB, hgrow.block j (by simp; omega) hjo]
  exact Below.heap_alloc W _ j hlt
end Go.Proofs.YtnblhjndngpbnaaGreat
