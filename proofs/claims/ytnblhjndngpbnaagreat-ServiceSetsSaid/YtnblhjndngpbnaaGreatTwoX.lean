/- What is proved here: a law's two stores side by side, beside boxes of the walk's own. the keys of a state. No condition. -/
import Derived.Test.YtnblhjndngpbnaaGreatTwo
namespace Go.Proofs.YtnblhjndngpbnaaGreat
open Go.RowKit

/-- All keys are so. -/
def KeysP (P : ByteArray → Prop) (s : St) : Prop := ∀ x ∈ s.ents, P x.1

theorem KeysP.empty (P : ByteArray → Prop) : KeysP P emptySt := fun x hx => by cases hx
theorem KeysP.set {P : ByteArray → Prop} {s : St} (h : KeysP P s) {k : ByteArray} (hk : P k) (v : ByteArray) : KeysP P (s.set k v) := by
  unfold St.set
  split
  · exact h
  · intro x hx
    rcases putE_mem hx with rfl | hx
    · exact hk
    · exact h x hx
theorem KeysP.del {P : ByteArray → Prop} {s : St} (h : KeysP P s) (k : ByteArray) : KeysP P (s.del k) := by
  unfold St.del
  split
  · exact fun x hx => h x (delE_mem hx)
  · exact h
theorem KeysP.put {P : ByteArray → Prop} {s : St} (h : KeysP P s) {k : ByteArray} (hk : P k) (v : ByteArray) : KeysP P (s.put k v) := by
  unfold St.put
  split
  · exact h.del k
  · split
    · exact h
    · exact h.set hk v
theorem KeysP.setInt {P : ByteArray → Prop} {s : St} (h : KeysP P s) {k : ByteArray} (hk : P k) (n : Int) : KeysP P (s.setInt k n) := h.put hk _

theorem keyL_short (t : Nat) (l : List Int) : (keyL t l).size ≤ 1 + 8 * l.length := by
  unfold keyL
  split
  · exact Nat.zero_le _
  · show (keyBytes t l).toArray.size ≤ _
    rw [List.size_toArray, keyBytes_len]
    exact Nat.le_refl _

/-- Two stores of the law's own, and rows X that are in neither. -/
def TwoX (w : World) (b m : Nat) (s t : St) (X : List (Nat × Obj)) (w1 : World) : Prop :=
  Below w.heap.size w w1 ∧ (∃ L M, SRep w1 b s L ∧ RRep w1 m t M ∧ (∀ k ∈ L, w.heap.size ≤ k) ∧ (∀ k ∈ M, w.heap.size ≤ k) ∧ (∀ k ∈ L, k ∉ M) ∧ ∀ x ∈ X, x.1 ∉ L ∧ x.1 ∉ M) ∧ ∀ x ∈ X, w1.heap[x.1]? = some x.2

theorem TwoX.two {w w1 : World} {b m : Nat} {s t : St} {X : List (Nat × Obj)} (h : TwoX w b m s t X w1) : Two w b m s t w1 := by
  obtain ⟨h0, ⟨L, M, h1, h2, h3, h4, h5, _⟩, _⟩ := h
  exact ⟨h0, L, M, h1, h2, h3, h4, h5⟩
theorem Two.x {w w1 : World} {b m : Nat} {s t : St} (h : Two w b m s t w1) : TwoX w b m s t [] w1 := by
  obtain ⟨h0, L, M, h1, h2, h3, h4, h5⟩ := h
  exact ⟨h0, ⟨L, M, h1, h2, h3, h4, h5, fun x hx => by cases hx⟩, fun x hx => by cases hx⟩
theorem TwoX.drop {w w1 : World} {b m : Nat} {s t : St} {x : Nat × Obj} {X : List (Nat × Obj)} (h : TwoX w b m s t (x :: X) w1) : TwoX w b m s t X w1 := by
  obtain ⟨h0, ⟨L, M, h1, h2, h3, h4, h5, h6⟩, h7⟩ := h
  exact ⟨h0, ⟨L, M, h1, h2, h3, h4, h5, fun y hy => h6 y (by simp [hy])⟩, fun y hy => h7 y (by simp [hy])⟩
theorem TwoX.lt {w w1 : World} {b m : Nat} {s t : St} {X : List (Nat × Obj)} (h : TwoX w b m s t X w1) : ∀ x ∈ X, x.1 < w1.heap.size := fun x hx => (Array.getElem?_eq_some_iff.1 (h.2.2 x hx)).1

theorem TwoX.below {w w1 w2 : World} {b m : Nat} {s t : St} {X : List (Nat × Obj)} (h : TwoX w b m s t X w1) (hb : Below w1.heap.size w1 w2) : TwoX w b m s t X w2 := by
  have hlt := h.lt
  obtain ⟨h0, ⟨L, M, h1, h2, h3⟩, h7⟩ := h
  exact ⟨h0.trans (hb.mono h0.size), ⟨L, M, h1.below hb, h2.below hb, h3⟩, fun x hx => (hb.block _ (hlt x hx)).trans (h7 x hx)⟩

theorem TwoX.box {w w1 : World} {b m : Nat} {s t : St} {X : List (Nat × Obj)} (h : TwoX w b m s t X w1) (o : Obj) : TwoX w b m s t ((w1.heap.size, o) :: X) (w1.alloc o) := by
  have hlt := h.lt
  have hb : Below w1.heap.size w1 (w1.alloc o) := (Below.refl _ w1).alloc (Nat.le_refl _) o
  obtain ⟨h0, ⟨L, M, h1, h2, h3, h4, h5, h6⟩, h7⟩ := h
  refine ⟨h0.alloc h0.size o, ⟨L, M, h1.alloc o, h2.below hb, h3, h4, h5, fun x hx => ?_⟩, fun x hx => ?_⟩
  · rcases List.mem_cons.1 hx with rfl | hx
    · exact ⟨fun hm => Nat.lt_irrefl _ (h1.lt _ hm), fun hm => Nat.lt_irrefl _ (h2.lt _ hm)⟩
    · exact h6 x hx
  · rcases List.mem_cons.1 hx with rfl | hx
    · exact heap_alloc_new w1 o
    · exact (hb.block _ (hlt x hx)).trans (h7 x hx)

/-- A call on the program's store. -/
theorem TwoX.prog {w w1 : World} {b m : Nat} {s t s' : St} {X : List (Nat × Obj)} {F : FuncId} {args : Array Value} {v : Value} (h : TwoX w b m s t X w1) (hc : ∀ L, SRep w1 b s L → Calls Tryz.prog F args w1 (RetSt w1 b L v s')) :
    Calls Tryz.prog F args w1 fun e w' => e = .returned v ∧ TwoX w b m s' t X w' := by
  have hlt := h.lt
  obtain ⟨h0, ⟨L, M, h1, h2, h3, h4, h5, hx⟩, hX⟩ := h
  refine (hc L h1).mono fun e w' ⟨he, L', h6, h7⟩ => ⟨he, below_of_step h0 h3 h7, ⟨L', M, h6, h2.fr h7.fr (fun k hk hm => h5 k hm hk), fun k hk => ?_, h4, fun k hk hm => ?_, fun x hxx => ⟨fun hm => ?_, (hx x hxx).2⟩⟩, fun x hxx => ?_⟩
  · rcases h7.own k hk with h8 | h8
    · exact h3 k h8
    · exact Nat.le_trans h0.size h8
  · rcases h7.own k hk with h8 | h8
    · exact h5 k h8 hm
    · have := h2.lt k hm; omega
  · rcases h7.own _ hm with h8 | h8
    · exact (hx x hxx).1 h8
    · have := hlt x hxx; omega
  · exact (h7.fr.block _ (hlt x hxx) (hx x hxx).1).trans (hX x hxx)

/-- A call on the reference's store. -/
theorem TwoX.ref {w w1 : World} {b m : Nat} {s t t' : St} {X : List (Nat × Obj)} {F : FuncId} {args : Array Value} {v : Value} (h : TwoX w b m s t X w1) (hc : ∀ M, RRep w1 m t M → Calls Tryz.prog F args w1 (RetR w1 m M v t')) :
    Calls Tryz.prog F args w1 fun e w' => e = .returned v ∧ TwoX w b m s t' X w' := by
  have hlt := h.lt
  obtain ⟨h0, ⟨L, M, h1, h2, h3, h4, h5, hx⟩, hX⟩ := h
  refine (hc M h2).mono fun e w' ⟨he, M', h6, h7⟩ => ⟨he, below_of_step h0 h4 h7, ⟨L, M', h1.fr h7.fr (fun k hk hm => h5 k hk hm), h6, h3, fun k hk => ?_, fun k hk hm => ?_, fun x hxx => ⟨(hx x hxx).1, fun hm => ?_⟩⟩, fun x hxx => ?_⟩
  · rcases h7.own k hk with h8 | h8
    · exact h4 k h8
    · exact Nat.le_trans h0.size h8
  · rcases h7.own k hm with h8 | h8
    · exact h5 k hk h8
    · have := h1.lt k hk; omega
  · rcases h7.own _ hm with h8 | h8
    · exact (hx x hxx).2 h8
    · have := hlt x hxx; omega
  · exact (h7.fr.block _ (hlt x hxx) (hx x hxx).2).trans (hX x hxx)

/-- A call that leaves all that is there. -/
theorem TwoX.still {w w1 : World} {b m : Nat} {s t : St} {X : List (Nat × Obj)} {F : FuncId} {args : Array Value} {v : Value} (h : TwoX w b m s t X w1) (hc : Calls Tryz.prog F args w1 fun e w' => e = .returned v ∧ Below w1.heap.size w1 w') :
    Calls Tryz.prog F args w1 fun e w' => e = .returned v ∧ TwoX w b m s t X w' :=
  hc.mono fun _ _ ⟨he, hb⟩ => ⟨he, h.below hb⟩

/-- A box's cell. -/
theorem TwoX.cell {w w1 : World} {b m : Nat} {s t : St} {X : List (Nat × Obj)} (h : TwoX w b m s t X w1) {q : Nat} {cs : Array Value} {ty : TypeId} (hx : (q, Obj.cells cs ty (0, 0)) ∈ X) (i : Nat) {v : Value} (hv : cs[i]? = some v) : w1.cell? ⟨q, i, none⟩ = some v := by
  rw [cell_of_row _ _ _ _ _ _ (h.2.2 _ hx)]; exact hv
theorem TwoX.top {w w1 : World} {b m : Nat} {s t : St} {X : List (Nat × Obj)} {q : Nat} {cs : Array Value} {ty : TypeId} (h : TwoX w b m s t ((q, Obj.cells cs ty (0, 0)) :: X) w1) (i : Nat) {v : Value} (hv : cs[i]? = some v) : w1.cell? ⟨q, i, none⟩ = some v :=
  h.cell (List.mem_cons.2 (.inl rfl)) i hv
end Go.Proofs.YtnblhjndngpbnaaGreat
