/- What is proved here: append, copy and clear over slices of the call's own, as laws of the walk. No condition. -/
import Derived.Test.YtgnnnjabgoadaaaBase
import Derived.Deep.RegionLaw
import Derived.Laws.CopyOwn
import Derived.StillTailTactics
import Derived.Deep.RegionHeld3
import Derived.Deep.DeepCutAuto
import Derived.Deep.DeepFit
import Derived.Deep.DeepMust
namespace Go.Proofs.Ytgnnnjabgoadaaa
open Go.RowKit

/-- A slice type, its element type, an element's zero value, cells and bytes. -/
structure SliceT (P : Program) (t e : TypeId) (z : Value) (size bytes : Nat) : Prop where
  und : P.underlying t = some (.slice e)
  info : (P.info? e).map (fun i => (i.zero, i.size, i.bytes)) = some (some z, size, bytes)
  zs : z.cells.size = size
  pos : 0 < size

section
variable {P : Program} {w : World} {ops : Array Oper} {rest : List Oper} {o : Oper} {a : Act} {Q : Exit → Act → World → Prop} {K : Act → World → Prop} {E : Prop}

/-- An operation whose run is known. -/
theorem wpList_value (hgd : o.guard = none) (v : Value) (w' : World) (hr : (execOp a.eval o).run P w = .ok (.value v) w') (h : wpList P ops Q rest (a.put o.dst v) w') : wpList P ops Q (o :: rest) a w :=
  wpList_plain hgd fun _ hK => by unfold Oper.wp; rw [hr]; exact hK _ _ h

theorem step_value (hgd : o.guard = none) (v : Value) (w' : World) (hr : (execOp a.eval o).run P w = .ok (.value v) w') (h : K (a.put o.dst v) w') :
    if Region.wanted o (yielded ops a.tmps) = true then Oper.wp P o a w K Q else E := by
  have hw : Region.wanted o (yielded ops a.tmps) = true := by simp [Region.wanted, hgd]
  rw [if_pos hw]; unfold Oper.wp; rw [hr]; exact h

theorem exec_append {s x : Operand} {t t2 : TypeId} (ho : o.op = .call { callee := .builtin .append, args := #[s, x], argTypes := #[t, t2] }) {v y r : Value} {w' : World} (hs : a.eval s = v) (hx : a.eval x = y)
    (hr : (Builtin.append_ #[t, t2] o.type #[v, y]).run P w = .ok r w') : (execOp a.eval o).run P w = .ok (.value r) w' := by
  unfold execOp
  simp only [ho, resolve, invoke, builtin, Sem.run_bind, Sem.run_pure, Result.andThen_ok, List.map_toArray, List.map_cons, List.map_nil, hs, hx, hr]

theorem exec_copy {s x : Operand} {t t2 : TypeId} (ho : o.op = .call { callee := .builtin .copy, args := #[s, x], argTypes := #[t, t2] }) {v y r : Value} {w' : World} (hs : a.eval s = v) (hx : a.eval x = y)
    (hr : (Builtin.copy_ #[t, t2] o.type #[v, y]).run P w = .ok r w') : (execOp a.eval o).run P w = .ok (.value r) w' := by
  unfold execOp
  simp only [ho, resolve, invoke, builtin, Sem.run_bind, Sem.run_pure, Result.andThen_ok, List.map_toArray, List.map_cons, List.map_nil, hs, hx, hr]

theorem exec_clear {s : Operand} {t : TypeId} (ho : o.op = .call { callee := .builtin .clear, args := #[s], argTypes := #[t] }) {v r : Value} {w' : World} (hs : a.eval s = v)
    (hr : (Builtin.clear_ #[t] o.type #[v]).run P w = .ok r w') : (execOp a.eval o).run P w = .ok (.value r) w' := by
  unfold execOp
  simp only [ho, resolve, invoke, builtin, Sem.run_bind, Sem.run_pure, Result.andThen_ok, List.map_toArray, List.map_cons, List.map_nil, hs, hr]

/-- What an append onto a slice of one's own leaves. -/
structure Appended (w : World) (e : TypeId) (size : Nat) (v : Value) (n m : Nat) (xs news : List Value) (v' : Value) (w' : World) : Prop where
  own : Own w' e size v' (n + m) (xs ++ news)
  grown : w.grownBy w' v.ownBlock
  nil : v' = .slice none 0 0 ↔ v = .slice none 0 0 ∧ m = 0
  block : ∀ k, v'.ownBlock = some k → v.ownBlock = some k ∨ w.heap.size ≤ k

theorem run_append_T {t t2 e : TypeId} {z : Value} {size bytes : Nat} (T : SliceT P t e z size bytes) (T2 : SliceT P t2 e z size bytes) (ty : TypeId)
    {v : Value} {n : Nat} {xs : List Value} (hown : Own w e size v n xs)
    {ad : Addr} {m c : Nat} (news : List Value) (hl : news.length = m * size) (hnews : ∀ j u, news[j]? = some u → w.cell? (ad.add j) = some u) (h1 : ∀ u ∈ news, u.oneCell' = true)
    (h63 : n + m ≤ maxLen) (hbytes : (n + m) * bytes ≤ 140737488355328) :
    ∃ v' w', (Builtin.append_ #[t, t2] ty #[v, .slice (some ad) m c]).run P w = .ok v' w' ∧ Appended w e size v n m xs news v' w' := by
  obtain ⟨i, hi, hz0, hz1, hz2⟩ := info_parts T.info
  obtain ⟨v', w', h1, h2, h3, h4, h5⟩ := run_append_Own (P := P) w t t2 ty e i z size bytes T.und T2.und hi hz0 hz1 hz2 T.zs T.pos v n xs hown ad m c news hl hnews h1 h63 hbytes
  exact ⟨v', w', h1, h2, h3, h4, h5⟩

theorem wpList_append_Own (hgd : o.guard = none) (s x : Operand) (t t2 : TypeId) (ho : o.op = .call { callee := .builtin .append, args := #[s, x], argTypes := #[t, t2] })
    {e : TypeId} {z : Value} {size bytes : Nat} (T : SliceT P t e z size bytes) (T2 : SliceT P t2 e z size bytes)
    (v : Value) (n : Nat) (xs : List Value) (hs : a.eval s = v) (hown : Own w e size v n xs)
    (ad : Addr) (m c : Nat) (news : List Value) (hx : a.eval x = .slice (some ad) m c) (hl : news.length = m * size) (hnews : ∀ j u, news[j]? = some u → w.cell? (ad.add j) = some u) (h1 : ∀ u ∈ news, u.oneCell' = true)
    (h63 : n + m ≤ maxLen) (hbytes : (n + m) * bytes ≤ 140737488355328)
    (h : ∀ v' w', Appended w e size v n m xs news v' w' → wpList P ops Q rest (a.put o.dst v') w') : wpList P ops Q (o :: rest) a w := by
  obtain ⟨v', w', hr, hA⟩ := run_append_T T T2 o.type hown news hl hnews h1 h63 hbytes
  exact wpList_value hgd v' w' (exec_append ho hs hx hr) (h v' w' hA)

theorem step_append_Own (hgd : o.guard = none) (s x : Operand) (t t2 : TypeId) (ho : o.op = .call { callee := .builtin .append, args := #[s, x], argTypes := #[t, t2] })
    {e : TypeId} {z : Value} {size bytes : Nat} (T : SliceT P t e z size bytes) (T2 : SliceT P t2 e z size bytes)
    (v : Value) (n : Nat) (xs : List Value) (hs : a.eval s = v) (hown : Own w e size v n xs)
    (ad : Addr) (m c : Nat) (news : List Value) (hx : a.eval x = .slice (some ad) m c) (hl : news.length = m * size) (hnews : ∀ j u, news[j]? = some u → w.cell? (ad.add j) = some u) (h1 : ∀ u ∈ news, u.oneCell' = true)
    (h63 : n + m ≤ maxLen) (hbytes : (n + m) * bytes ≤ 140737488355328)
    (h : ∀ v' w', Appended w e size v n m xs news v' w' → K (a.put o.dst v') w') :
    if Region.wanted o (yielded ops a.tmps) = true then Oper.wp P o a w K Q else E := by
  obtain ⟨v', w', hr, hA⟩ := run_append_T T T2 o.type hown news hl hnews h1 h63 hbytes
  exact step_value hgd v' w' (exec_append ho hs hx hr) (h v' w' hA)

/-- append of nothing, out of a nil slice. -/
theorem run_append_none {t t2 e : TypeId} {z : Value} {size bytes : Nat} (T : SliceT P t e z size bytes) (T2 : SliceT P t2 e z size bytes) (ty : TypeId)
    {v : Value} {n : Nat} {xs : List Value} (hown : Own w e size v n xs) (c : Nat) :
    (Builtin.append_ #[t, t2] ty #[v, .slice none 0 c]).run P w = .ok v w := by
  obtain ⟨i, hi, hz0, hz1, hz2⟩ := info_parts T.info
  rcases hown.2 with ⟨rfl, rfl⟩ | ⟨g, cap, cur, rfl, hg, hnc, hcm, hcs, htake⟩
  · simp [Builtin.append_, run_underlying T.und, run_underlying T2.und, sizeOf, typeInfo, hi, Builtin.lenOf, Builtin.firstCells]
  · simp [Builtin.append_, run_underlying T.und, run_underlying T2.und, sizeOf, typeInfo, hi, Builtin.lenOf, Builtin.firstCells, hnc, storeCells]

/-- append where there is room, exactly. -/
theorem run_append_roomT {t t2 e : TypeId} {z : Value} {size bytes : Nat} (T : SliceT P t e z size bytes) (T2 : SliceT P t2 e z size bytes) (ty : TypeId)
    {g n cap : Nat} {cur : Array Value} (hg : w.heap[g]? = some (.cells cur e (0, 0)))
    {ad : Addr} {m c : Nat} (news : List Value) (hl : news.length = m * size) (hnews : ∀ j u, news[j]? = some u → w.cell? (ad.add j) = some u) (h1 : ∀ u ∈ news, u.oneCell' = true)
    (hroom : n + m ≤ cap) (hfit : n * size + news.length ≤ cur.size) :
    (Builtin.append_ #[t, t2] ty #[.slice (some ⟨g, 0, none⟩) n cap, .slice (some ad) m c]).run P w =
      .ok (.slice (some ⟨g, 0, none⟩) (n + m) cap) (w.setRow g (cur.toList.take (n * size) ++ news ++ cur.toList.drop (n * size + news.length)).toArray) := by
  obtain ⟨i, hi, hz0, hz1, hz2⟩ := info_parts T.info
  subst hz1
  rw [← run_append_room (P := P) w t ty e i T.und hi g n cap cur hg ad m c news hl hnews h1 hroom hfit]
  simp [Builtin.append_, run_underlying T.und, run_underlying T2.und]

/-- copy into a row. -/
theorem run_copyT {t t2 e : TypeId} {z : Value} {bytes : Nat} (T : SliceT P t e z 1 bytes) (ty : TypeId) {g off dLen dCap : Nat} {ad : Addr} {sLen sCap : Nat} {cur : Array Value} {te : TypeId} (cs : List Value)
    (hg : w.heap[g]? = some (.cells cur te (0, 0))) (hn : cs.length = Nat.min sLen dLen)
    (hsrc : ∀ j v, cs[j]? = some v → w.cell? (ad.add j) = some v) (hfit : off + cs.length ≤ cur.size) (h1 : ∀ v ∈ cs, v.oneCell' = true) :
    (Builtin.copy_ #[t, t2] ty #[.slice (some ⟨g, off, none⟩) dLen dCap, .slice (some ad) sLen sCap]).run P w =
      .ok (goInt cs.length) (w.setRow g (cur.toList.take off ++ cs ++ cur.toList.drop (off + cs.length)).toArray) := by
  refine run_copy_row (P := P) w t t2 ty e g off dLen dCap ad sLen sCap cur te cs T.und ?_ hg hn hsrc hfit h1
  obtain ⟨i, hi, hz0, hz1, hz2⟩ := info_parts T.info
  simp [hi, hz1]

/-- clear of a piece of a row. -/
theorem run_clearT {t e : TypeId} {z : Value} {bytes : Nat} (T : SliceT P t e z 1 bytes) (h1 : z.oneCell' = true) (hzc : z.cells = #[z]) (ty : TypeId) {g off n c : Nat} {cur : Array Value} {te : TypeId}
    (hg : w.heap[g]? = some (.cells cur te (0, 0))) (hfit : off + n ≤ cur.size) :
    (Builtin.clear_ #[t] ty #[.slice (some ⟨g, off, none⟩) n c]).run P w =
      .ok (.tuple #[]) (w.setRow g (cur.toList.take off ++ List.replicate n z ++ cur.toList.drop (off + n)).toArray) := by
  obtain ⟨i, hi, hz0, hz1, hz2⟩ := info_parts T.info
  cases n with
  | zero =>
    simp [Builtin.clear_, run_underlying T.und]
    rw [setRow_self w g cur te (0, 0) hg]
  | succ n =>
    have hzero : (Builtin.zeroCells z.cells (n + 1)).toList = List.replicate (n + 1) z := by
      apply List.ext_getElem
      · simp [size_zeroCells, hzc]
      · intro j h1 h2
        have : j < n + 1 := by simpa using h2
        simp [Builtin.zeroCells, hzc, Nat.mod_one]
    have hst := run_storeCells_at P g off te (List.replicate (n + 1) z) 0 cur w hg (by simpa using hfit) (by intro v hv; rw [List.eq_of_mem_replicate hv]; exact h1)
    simp only [Nat.add_zero, List.length_replicate] at hst
    simp [Builtin.clear_, run_underlying T.und, zeroValue, typeInfo, hi, hz0, hzero, hst]
end
end Go.Proofs.Ytgnnnjabgoadaaa
