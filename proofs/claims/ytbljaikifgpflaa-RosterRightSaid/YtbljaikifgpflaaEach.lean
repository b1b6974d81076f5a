/- What is proved here: roster.each: what it hands on, in order; its value is an iterator for every loop body that writes ints' rows and boxes of slices of ints alone. Its conditions: sizes. -/
import Derived.Test.YtbljaikifgpflaaNoStore
import Derived.Test.YtbljaikifgpflaaParse
import Derived.RangeFuncNested
import Derived.RangeFuncBound
import Derived.RangeFuncCalls
import Derived.RangeFuncLeaves
import Derived.RangeFuncBox
import Derived.Shelf.Abstract
import Derived.Shelf.RegionOpen
import Derived.WalkKit
import Derived.OwnWalkIn
import Derived.TacticsInMore
import Derived.LoopNIn
import Derived.LoopIn
import Derived.Maps.AppendAt
namespace Go.Proofs.Ytbljaikifgpflaa
open Go.RowKit Go.Shelf

/-- What an entry hands on: its one number, and the number there. -/
def eachOf (s : St) (x : Ent) : Option (Int × Int) := match parseK x.1 with
  | some (_, [n]) => some ((n : Int), (s.int x.1 : Int))
  | _ => none
/-- What a table hands on. -/
def eachE (t : Nat) (s : St) : List (Int × Int) := (underE (keyL t []) s.ents).filterMap (eachOf s)

theorem filterMap_step {α β : Type} (f : α → Option β) (l : List α) (i : Nat) (x : α) (h : l[i]? = some x) : (l.take (i + 1)).filterMap f = (l.take i).filterMap f ++ (f x).toList := by
  rw [take_one_more l i x h, List.filterMap_append]
  cases hf : f x <;> simp [hf]
theorem filterMap_len {α β : Type} (f : α → Option β) (l : List α) : (l.filterMap f).length ≤ l.length := List.length_filterMap_le ..

/-- What a loop's body keeps: what lay below n₀, and each row that is neither of ints nor of slices of ints. -/
def KpR (n₀ : Nat) (A B : World) : Prop := Below n₀ A B ∧ ∀ (k : Nat) (cs : Array Value) (t : TypeId) f, A.heap[k]? = some (Obj.cells cs t f) → t ≠ 3 → t ≠ 34 → B.heap[k]? = A.heap[k]?

theorem KpR.refl (n₀ : Nat) (A : World) : KpR n₀ A A := ⟨Below.refl _ _, fun _ _ _ _ _ _ _ => rfl⟩
theorem KpR.trans {n₀ : Nat} {A B C : World} (h : KpR n₀ A B) (k : KpR n₀ B C) : KpR n₀ A C :=
  ⟨h.1.trans k.1, fun j cs t f hj h1 h2 => (k.2 j cs t f (by rw [h.2 j cs t f hj h1 h2]; exact hj) h1 h2).trans (h.2 j cs t f hj h1 h2)⟩
theorem KpR.turn {n₀ : Nat} {w : World} (hn : n₀ ≤ w.heap.size) (W : World) (l : Nat) (o o' : Obj) (hl : w.heap.size ≤ l) (h : W.heap[l]? = some o) (hc : o.isCells = false) (hw : o.isWalk = false) : KpR n₀ W (W.putObj l o') :=
  ⟨belowK_b hn W l o o' hl h hc hw, fun k cs t f hk _ _ => by
    refine World.putObj_heap_other fun e => ?_
    subst e
    rw [h] at hk
    cases hk
    cases hc⟩
theorem KpR.of_below {n₀ : Nat} {A B : World} (h : Below A.heap.size A B) (hn : n₀ ≤ A.heap.size) : KpR n₀ A B :=
  ⟨h.mono hn, fun k _ _ _ hk _ _ => h.block k (Array.getElem?_eq_some_iff.1 hk).1⟩
theorem KpR.own {n₀ : Nat} {A B : World} (h : KpR n₀ A B) {e size : Nat} {v : Value} {n : Nat} {xs : List Value} (ho : Own A e size v n xs) (h1 : e ≠ 3) (h2 : e ≠ 34) : Own B e size v n xs := by
  refine ⟨ho.1, ?_⟩
  rcases ho.2 with h0 | ⟨g, cap, cur, hv, hg, hr⟩
  · exact .inl h0
  · exact .inr ⟨g, cap, cur, hv, by rw [h.2 g _ _ _ hg h1 h2]; exact hg, hr⟩
theorem KpR.box {n₀ : Nat} {A B : World} (h : KpR n₀ A B) {k t : Nat} {v : Value} (ho : Boxed A k t v) (h1 : t ≠ 3) (h2 : t ≠ 34) : Boxed B k t v := (h.2 k _ _ _ ho h1 h2).trans ho
theorem grown_below {A B : World} (h : Below A.heap.size A B) : A.grownBy B none := ⟨h.os, h.tape, h.output, h.size, fun k hk _ => h.block k hk⟩

set_option maxRecDepth 100000 in
set_option maxHeartbeats 1000000 in
theorem table_any (t : Nat) (ht1 : 1 ≤ t) (ht2 : t ≤ 255) (w : World) : Calls Try.prog 42 #[.int .i64 t] w fun e w' => e = .returned (.string (keyL t [])) ∧ Below w.heap.size w w' := by
  have HK := Lib.hid (key_new0 t ht1 ht2 w)
  generalize keyL t [] = k at *
  clear ht1 ht2
  go_enter Try.func42, Try.ntmps42
  go_wp2_with (go_at_call 28; refine HK.out.mono ?_; rintro e w' ⟨rfl, hb⟩)
  go_ret
  exact ⟨rfl, hb⟩

set_option maxRecDepth 100000 in
set_option maxHeartbeats 1000000 in
/-- each's value: a function over its two boxes. -/
theorem each_any (q : Option Addr) (t : Nat) (w : World) : Calls Try.prog 26 #[.pointer q, .int .i64 t] w fun e w' =>
    e = .returned (.func (.func 41) #[] #[.pointer (some ⟨w.heap.size, 0, none⟩), .pointer (some ⟨w.heap.size + 1, 0, none⟩)]) ∧ w' = (w.alloc (.cells #[.pointer q] 24)).alloc (.cells #[.int .i64 t] 3) := by
  go_enter Try.func26, Try.ntmps26
  go_wp2_with fail
  go_ret
  exact ⟨rfl, rfl⟩
end Go.Proofs.Ytbljaikifgpflaa
