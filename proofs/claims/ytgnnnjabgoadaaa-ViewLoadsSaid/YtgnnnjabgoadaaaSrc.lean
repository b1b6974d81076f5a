/- What is proved here: laws that name no program: a slice as a source (nil or in memory), a slice's beginning and end, append of a whole source. No condition. -/
import Derived.Test.YtgnnnjabgoadaaaMem
namespace Go.Proofs.Ytgnnnjabgoadaaa
open Go.RowKit

/-- A slice of m elements that reads as these cells. -/
def Src (w : World) (size : Nat) (y : Value) (m : Nat) (news : List Value) : Prop :=
  news.length = m * size ∧ ∃ a c, y = .slice a m c ∧ ∀ j u, news[j]? = some u → ∃ ad, a = some ad ∧ w.cell? (ad.add j) = some u

theorem Own.src {w : World} {e : TypeId} {size : Nat} {v : Value} {n : Nat} {xs : List Value} (h : Own w e size v n xs) : Src w size v n xs := by
  refine ⟨h.1, ?_⟩
  rcases h.2 with ⟨rfl, rfl⟩ | ⟨g, c, cur, rfl, hg, _⟩
  · have := h.1
    rw [Nat.zero_mul] at this
    have := List.eq_nil_of_length_eq_zero this
    subst this
    exact ⟨none, 0, rfl, fun j u hj => by cases hj⟩
  · exact ⟨_, c, rfl, fun j u hj => ⟨_, rfl, h.cells (g := g) rfl j u hj⟩⟩

theorem Src.to {w w' : World} {size : Nat} {y : Value} {m : Nat} {news : List Value} (h : Src w size y m news) (hc : ∀ a u, w.cell? a = some u → y.ownBlock = some a.block → w'.cell? a = some u) : Src w' size y m news := by
  obtain ⟨h1, a, c, rfl, h2⟩ := h
  refine ⟨h1, a, c, rfl, fun j u hj => ?_⟩
  obtain ⟨ad, rfl, h3⟩ := h2 j u hj
  refine ⟨ad, rfl, hc _ _ h3 ?_⟩
  show some ad.block = some (ad.add j).block
  unfold Addr.add; split <;> rfl

theorem Src.below {w w' : World} {size : Nat} {y : Value} {m : Nat} {news : List Value} (h : Src w size y m news) (hb : Below w.heap.size w w') : Src w' size y m news :=
  h.to fun a u hc _ => by rw [hb.cell (World.block_lt_of_cell? w a hc)]; exact hc

section
variable {P : Program} {w : World} {ops : Array Oper} {rest : List Oper} {o : Oper} {a : Act} {Q : Exit → Act → World → Prop} {K : Act → World → Prop} {E : Prop}

theorem run_append_src {t t2 e : TypeId} {z : Value} {size bytes : Nat} (T : SliceT P t e z size bytes) (T2 : SliceT P t2 e z size bytes) (ty : TypeId)
    {v : Value} {n : Nat} {xs : List Value} (hown : Own w e size v n xs) {y : Value} {m : Nat} {news : List Value} (hs : Src w size y m news) (h1 : ∀ u ∈ news, u.oneCell' = true)
    (h63 : n + m ≤ maxLen) (hbytes : (n + m) * bytes ≤ 140737488355328) :
    ∃ v' w', (Builtin.append_ #[t, t2] ty #[v, y]).run P w = .ok v' w' ∧ Appended w e size v n m xs news v' w' := by
  obtain ⟨hl, b, c, rfl, hc⟩ := hs
  cases b with
  | some ad =>
    refine run_append_T T T2 ty hown news hl (fun j u hj => ?_) h1 h63 hbytes
    obtain ⟨ad', e, h⟩ := hc j u hj
    cases e
    exact h
  | none =>
    have hn : news = [] := by
      cases news with
      | nil => rfl
      | cons x l => obtain ⟨_, e, _⟩ := hc 0 x rfl; cases e
    subst hn
    have hm : m = 0 := by
      rw [List.length_nil] at hl
      rcases Nat.mul_eq_zero.1 hl.symm with h | h
      · exact h
      · have := T.pos; omega
    subst hm
    exact ⟨v, w, run_append_none T T2 ty hown c, by simpa using hown, ⟨rfl, rfl, rfl, Nat.le_refl _, fun _ _ _ => rfl⟩, by simp, fun k hk => .inl hk⟩

theorem wpList_append_src (hgd : o.guard = none) (s x : Operand) (t t2 : TypeId) (ho : o.op = .call { callee := .builtin .append, args := #[s, x], argTypes := #[t, t2] })
    {e : TypeId} {z : Value} {size bytes : Nat} (T : SliceT P t e z size bytes) (T2 : SliceT P t2 e z size bytes)
    (v : Value) (n : Nat) (xs : List Value) (hs : a.eval s = v) (hown : Own w e size v n xs)
    (y : Value) (m : Nat) (news : List Value) (hx : a.eval x = y) (hsrc : Src w size y m news) (h1 : ∀ u ∈ news, u.oneCell' = true)
    (h63 : n + m ≤ maxLen) (hbytes : (n + m) * bytes ≤ 140737488355328)
    (h : ∀ v' w', Appended w e size v n m xs news v' w' → wpList P ops Q rest (a.put o.dst v') w') : wpList P ops Q (o :: rest) a w := by
  obtain ⟨v', w', hr, hA⟩ := run_append_src T T2 o.type hown hsrc h1 h63 hbytes
  exact wpList_value hgd v' w' (exec_append ho hs hx hr) (h v' w' hA)

theorem step_append_src (hgd : o.guard = none) (s x : Operand) (t t2 : TypeId) (ho : o.op = .call { callee := .builtin .append, args := #[s, x], argTypes := #[t, t2] })
    {e : TypeId} {z : Value} {size bytes : Nat} (T : SliceT P t e z size bytes) (T2 : SliceT P t2 e z size bytes)
    (v : Value) (n : Nat) (xs : List Value) (hs : a.eval s = v) (hown : Own w e size v n xs)
    (y : Value) (m : Nat) (news : List Value) (hx : a.eval x = y) (hsrc : Src w size y m news) (h1 : ∀ u ∈ news, u.oneCell' = true)
    (h63 : n + m ≤ maxLen) (hbytes : (n + m) * bytes ≤ 140737488355328)
    (h : ∀ v' w', Appended w e size v n m xs news v' w' → K (a.put o.dst v') w') :
    if Region.wanted o (yielded ops a.tmps) = true then Oper.wp P o a w K Q else E := by
  obtain ⟨v', w', hr, hA⟩ := run_append_src T T2 o.type hown hsrc h1 h63 hbytes
  exact step_value hgd v' w' (exec_append ho hs hx hr) (h v' w' hA)

theorem exec_slice {t : TypeId} {x : Operand} {lo hi mx : Option Operand} (ho : o.op = .slice t x lo hi mx) {v r : Value} (hx : a.eval x = v)
    (hr : (Instr.sliceAt t v (lo.map a.eval) (hi.map a.eval) (mx.map a.eval)).run P w = .ok r w) : (execOp a.eval o).run P w = .ok (.value r) w := by
  unfold execOp
  simp only [ho, Sem.run_bind, Sem.run_pure, Result.andThen_ok, hx, hr]

theorem elem_of {t e : TypeId} (h : P.underlying t = some (.slice e)) : P.elem t = e := by simp [Program.elem, h]

/-- x[:i], x a slice of one's own. -/
theorem run_slice_begin {t e : TypeId} {z : Value} {size bytes : Nat} (T : SliceT P t e z size bytes) {v : Value} {n : Nat} {xs : List Value} (hown : Own w e size v n xs) {ad : Option Addr} {c : Nat} (hv : v = .slice ad n c) (i : Nat) (hi : i ≤ n) :
    (∀ w1, (Instr.sliceAt t v none (some (.int .i64 i)) none).run P w1 = .ok (.slice ad i c) w1) ∧ Src w size (.slice ad i c) i (xs.take (i * size)) := by
  have hu : P.underlying t = some (.slice (P.elem t)) := by rw [elem_of T.und]; exact T.und
  obtain ⟨inf, hinf, _, hz1, _⟩ := info_parts T.info
  have hs : ∀ w, (sizeOf (P.elem t)).run P w = .ok size w := fun w => by rw [elem_of T.und]; simp [sizeOf, typeInfo, hinf, hz1]
  have hnc : n ≤ c := by
    rcases hown.2 with ⟨h1, h2⟩ | ⟨g, c', cur, h1, _, h2, _⟩
    · rw [hv] at h1; cases h1; omega
    · rw [hv] at h1; cases h1; exact h2
  subst hv
  constructor
  · intro w
    rw [run_sliceAt_slice w t _ _ _ _ hu, run_slice_h w t ad n c hu .i64 i (by omega) (by omega), hs]
    simp only [Result.andThen, sliced, Int.toNat_natCast, Nat.sub_zero, Nat.zero_mul]
    have : (if c = 0 then ad else ad.map (·.add 0)) = ad := by
      cases ad with
      | none => simp
      | some x => simp [Addr.add]
    rw [this]
  · obtain ⟨hl, b, c', hv, hc⟩ := hown.src
    cases hv
    refine ⟨by rw [List.length_take, hl]; exact Nat.min_eq_left (Nat.mul_le_mul_right _ hi), ad, c, rfl, fun j u hj => hc j u ?_⟩
    rw [List.getElem?_take] at hj
    split at hj
    · exact hj
    · cases hj

/-- x[i:], x a slice of one's own. -/
theorem run_slice_end {t e : TypeId} {z : Value} {size bytes : Nat} (T : SliceT P t e z size bytes) {v : Value} {n : Nat} {xs : List Value} (hown : Own w e size v n xs) {ad : Option Addr} {c : Nat} (hv : v = .slice ad n c) (i : Nat) (hi : i ≤ n) :
    ∃ ad' c', (∀ w1, (Instr.sliceAt t v (some (.int .i64 i)) none none).run P w1 = .ok (.slice ad' (n - i) c') w1) ∧ Src w size (.slice ad' (n - i) c') (n - i) (xs.drop (i * size)) := by
  have hu : P.underlying t = some (.slice (P.elem t)) := by rw [elem_of T.und]; exact T.und
  obtain ⟨inf, hinf, _, hz1, _⟩ := info_parts T.info
  have hs : ∀ w, (sizeOf (P.elem t)).run P w = .ok size w := fun w => by rw [elem_of T.und]; simp [sizeOf, typeInfo, hinf, hz1]
  have hnc : n ≤ c := by
    rcases hown.2 with ⟨h1, h2⟩ | ⟨g, c', cur, h1, _, h2, _⟩
    · rw [hv] at h1; cases h1; omega
    · rw [hv] at h1; cases h1; exact h2
  subst hv
  refine ⟨if c = i then ad else ad.map (·.add (i * size)), c - i, ?_, ?_⟩
  · intro w
    rw [run_sliceAt_slice w t _ _ _ _ hu, run_slice_l w t ad n c hu .i64 i (by omega) (by omega), hs]
    simp only [Result.andThen, sliced, Int.toNat_natCast]
  · obtain ⟨hl, b, c', hv, hc⟩ := hown.src
    cases hv
    refine ⟨by rw [List.length_drop, hl, ← Nat.sub_mul], _, _, rfl, fun j u hj => ?_⟩
    rw [List.getElem?_drop] at hj
    obtain ⟨x, rfl, hx⟩ := hc _ u hj
    have hi' : i ≠ c := by
      intro e
      subst e
      have : n = i := by omega
      subst this
      rw [List.getElem?_eq_none (by omega)] at hj
      cases hj
    refine ⟨x.add (i * size), by rw [if_neg (fun e => hi' e.symm)]; rfl, ?_⟩
    have e : (x.add (i * size)).add j = x.add (i * size + j) := by
      unfold Addr.add
      by_cases h1 : i * size = 0 <;> by_cases h2 : j = 0 <;> simp [h1, h2, Nat.add_assoc]
    rw [e]
    exact hx
end
end Go.Proofs.Ytgnnnjabgoadaaa
