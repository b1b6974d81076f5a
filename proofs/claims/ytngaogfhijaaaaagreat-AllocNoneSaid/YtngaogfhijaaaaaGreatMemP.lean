/- What is proved here: what a member's row tells; member.key, row, In, Until, Slashable where a store is read. Their conditions: numbers below 2^63. -/
import Derived.Test.YtngaogfhijaaaaaGreatWorld27
import Derived.Test.YtngaogfhijaaaaaGreatNoStore
import Derived.Laws.Cover3
namespace Go.Proofs.YtngaogfhijaaaaaGreat
open Go.RowKit

def K24 (a n o : Int) : ByteArray := keyL 24 [a, n, o]
/-- The two numbers of a row of two; else none. -/
def pairOf : List Nat → Nat × Nat
  | [x, y] => (x, y)
  | _ => (0, 0)
def mP (s : St) (a n o : Int) : Nat × Nat := pairOf (rowOf (s.val (K24 a n o)))
def mIn (s : St) (a n o : Int) : Bool := (mP s a n o).1 == 1
def mUntil (s : St) (a n o : Int) : Nat × Bool := if (mP s a n o).1 = 2 then ((mP s a n o).2, true) else (0, false)
def mSlash (s : St) (a n o b : Int) : Bool := mIn s a n o || ((mUntil s a n o).2 && decide (b ≤ ((mUntil s a n o).1 : Int)))

theorem ReadAt.row {n : Nat} {w : World} {q : Option Addr} {s : St} (h : ReadAt n w q s) (k : ByteArray) : Calls Tryz.prog 65 #[.pointer q, .string k] w (RetRowG w (rowOf (s.val k))) := by
  rcases h with ⟨b, L, rfl, h, _, hv, _⟩ | ⟨h, _, rfl⟩
  · exact rowG_any w _ k _ _ (h.get k) (hv k)
  · exact rowG_any w q k emptyB false (h.get k) (by decide)

theorem mKey_any (w : World) (a n o : Int) (ha : a < 9223372036854775808) (hn : n < 9223372036854775808) (ho : o < 9223372036854775808) :
    Calls Tryz.prog 48 #[.int .i64 a, .int .i64 n, .int .i64 o] w fun e w' => e = .returned (.string (K24 a n o)) ∧ Below w.heap.size w w' := by
  have HK := Lib.hid (key_new3 24 (by decide) (by decide) a n o ha hn ho w)
  unfold K24
  generalize keyL 24 [a, n, o] = kk at *
  go_enter Tryz.func48, Tryz.ntmps48
  go_wp2_with fail
  refine Calls.mono HK.out ?_
  rintro e w1 ⟨rfl, hb1⟩
  go_wp2_with fail
  go_ret
  exact ⟨rfl, hb1⟩

/-- A row of two, cell by cell. -/
theorem own_two {w : World} {v : Value} {x y : Nat} (h : Own w 3 1 v 2 (intsV [x, y])) : ∃ g c, v = .slice (some ⟨g, 0, none⟩) 2 c ∧ w.cell? ⟨g, 0, none⟩ = some (.int .i64 x) ∧ w.cell? ⟨g, 1, none⟩ = some (.int .i64 y) := by
  rcases h.2 with ⟨_, h0⟩ | ⟨g, cap, cur, rfl, hg, _, _, hsz, hx⟩
  · cases h0
  · have hl : cur.toList.take 2 = [Value.int .i64 (x : Int), Value.int .i64 (y : Int)] := hx
    have e0 := congrArg (fun l => l[0]?) hl
    have e1 := congrArg (fun l => l[1]?) hl
    simp only [List.getElem?_take] at e0 e1
    refine ⟨g, cap, rfl, ?_, ?_⟩
    · rw [cell_of_row _ _ _ _ _ _ hg]; simpa using e0
    · rw [cell_of_row _ _ _ _ _ _ hg]; simpa using e1

theorem idx2 (a b : Int) (w : World) : (Instr.index 89 (.agg #[.int .i64 a, .int .i64 b]) (.int .i64 0)).run Tryz.prog w = .ok (.int .i64 a) w := by kernel_rfl

/-- What member.row tells. -/
abbrev RetPair (w : World) (p : Nat × Nat) (e : Ending) (w' : World) : Prop := e = .returned (.agg #[.int .i64 p.1, .int .i64 p.2]) ∧ Below w.heap.size w w'

set_option maxRecDepth 100000 in
set_option maxHeartbeats 2000000 in
theorem mrow_any (w : World) (q : Option Addr) (s : St) (a n o : Int) (ha : a < 9223372036854775808) (hn : n < 9223372036854775808) (ho : o < 9223372036854775808) (h : ReadAt w.heap.size w q s) :
    Calls Tryz.prog 42 #[.pointer q, .int .i64 a, .int .i64 n, .int .i64 o] w (RetPair w (mP s a n o)) := by
  have hb0 : Below w.heap.size w (w.alloc (.cells #[.int .i64 0, .int .i64 0] 89)) := (Below.refl _ w).alloc (Nat.le_refl _) _
  have HC : Hid (Calls Tryz.prog 48 #[.int .i64 a, .int .i64 n, .int .i64 o] (w.alloc (.cells #[.int .i64 0, .int .i64 0] 89)) fun e w1 => e = .returned (.string (K24 a n o)) ∧
      Calls Tryz.prog 65 #[.pointer q, .string (K24 a n o)] w1 fun e w2 => ∃ v, e = .returned v ∧ Own w2 3 1 v (rowOf (s.val (K24 a n o))).length (intsV (rowOf (s.val (K24 a n o)))) ∧ Below w.heap.size w w2 ∧ w2.heap[w.heap.size]? = some (.cells #[.int .i64 0, .int .i64 0] 89 (0, 0))) := by
    refine (mKey_any _ a n o ha hn ho).mono fun e w1 ⟨he, hb1⟩ => ⟨he, ?_⟩
    have b01 := bl_then hb0 hb1
    refine ((h.below b01).row (K24 a n o)).mono fun e w2 ⟨v, he, hO, _, hb2⟩ => ⟨v, he, hO, bl_then b01 hb2, ?_⟩
    have h1 : w1.heap[w.heap.size]? = some (.cells #[.int .i64 0, .int .i64 0] 89 (0, 0)) := (hb1.block _ (by simp)).trans (heap_alloc_new w _)
    exact (hb2.block _ (Array.getElem?_eq_some_iff.1 h1).1).trans h1
  have HP : Hid (mP s a n o = pairOf (rowOf (s.val (K24 a n o)))) := rfl
  generalize rowOf (s.val (K24 a n o)) = l at *
  generalize K24 a n o = kk at *
  generalize mP s a n o = p at *
  clear h hb0
  by_cases h2 : l.length = 2
  · obtain ⟨x, y, rfl⟩ : ∃ x y, l = [x, y] := by
      match l, h2 with
      | [x, y], _ => exact ⟨x, y, rfl⟩
    have hp : p = (x, y) := HP.out
    subst hp
    clear h2 HP
    go_enter Tryz.func42, Tryz.ntmps42
    go_wp2_with fail
    refine Calls.mono HC.out ?_
    rintro e w1 ⟨rfl, hC⟩
    have HC2 := Lib.hid hC
    clear hC HC
    go_wp2_with fail
    refine Calls.mono HC2.out ?_
    rintro e w2 ⟨v, rfl, hO, hb2, hrow⟩
    obtain ⟨g, c, rfl, c0, c1⟩ := own_two hO
    have HROW := Lib.hid hrow
    have q0 : w2.cell? ⟨w.heap.size, 0, none⟩ = some (.int .i64 0) := by rw [cell_of_row _ _ _ _ _ _ hrow]; rfl
    have q1 : w2.cell? ⟨w.heap.size, 1, none⟩ = some (.int .i64 0) := by rw [cell_of_row _ _ _ _ _ _ hrow]; rfl
    have f0 : w2.frozen? ⟨w.heap.size, 0, none⟩ = false := frozen_of_row _ _ _ _ _ hrow
    have f1 : w2.frozen? ⟨w.heap.size, 1, none⟩ = false := frozen_of_row _ _ _ _ _ hrow
    have hat : ∀ W, (Instr.arrayAt 89 (.slice (some ⟨g, 0, none⟩) 2 c)).run Tryz.prog W = .ok (.pointer (some ⟨g, 0, none⟩)) W := fun W => run_arrayAt W _ _ 2 _ 2 c Tryz.underlying89 (Nat.le_refl _)
    clear HC2 hO hrow
    go_wp2_with fail
    refine bodyPost_ret (results_cell_row rfl _ _ w.heap.size 89 #[.int .i64 x, .int .i64 y] (0, 0) _ rfl ?_ Tryz.underlying89 rfl (by kernel_rfl)) rfl ?_
    · exact setCell_row _ (setCell_row _ HROW.out)
    · exact ⟨rfl, (hb2.setCell (p := ⟨w.heap.size, 0, none⟩) (Nat.le_refl _) _).setCell (p := ⟨w.heap.size, 1, none⟩) (Nat.le_refl _) _⟩
  · have hp : p = (0, 0) := by
      rw [HP.out]; unfold pairOf
      match l, h2 with
      | [], _ => rfl
      | [_], _ => rfl
      | _ :: _ :: _ :: _, _ => rfl
    subst hp
    have HC1 : Hid (Calls Tryz.prog 48 #[.int .i64 a, .int .i64 n, .int .i64 o] (w.alloc (.cells #[.int .i64 0, .int .i64 0] 89)) fun e w1 => e = .returned (.string kk) ∧
      Calls Tryz.prog 65 #[.pointer q, .string kk] w1 fun e w2 => ∃ ad c, e = .returned (.slice ad l.length c) ∧ Below w.heap.size w w2 ∧ w2.heap[w.heap.size]? = some (.cells #[.int .i64 0, .int .i64 0] 89 (0, 0))) := by
      refine HC.out.mono fun e w1 ⟨he, h1⟩ => ⟨he, h1.mono fun e w2 ⟨v, he, hO, hb, hr⟩ => ?_⟩
      obtain ⟨ad, c, hu, _⟩ := hO.form
      subst hu
      exact ⟨ad, c, he, hb, hr⟩
    have hne : ((l.length : Int) == 2) = false := beq_eq_false_iff_ne.2 (by omega)
    clear HC HP h2
    generalize l.length = ln at *
    go_enter Tryz.func42, Tryz.ntmps42
    go_wp2_with fail
    refine Calls.mono HC1.out ?_
    rintro e w1 ⟨rfl, hC⟩
    have HC2 := Lib.hid hC
    clear hC HC1
    go_wp2_with fail
    refine Calls.mono HC2.out ?_
    rintro e w2 ⟨ad, c, rfl, hb2, hrow⟩
    have HROW := Lib.hid hrow
    have q0 : w2.cell? ⟨w.heap.size, 0, none⟩ = some (.int .i64 0) := by rw [cell_of_row _ _ _ _ _ _ hrow]; rfl
    have q1 : w2.cell? ⟨w.heap.size, 1, none⟩ = some (.int .i64 0) := by rw [cell_of_row _ _ _ _ _ _ hrow]; rfl
    have f0 : w2.frozen? ⟨w.heap.size, 0, none⟩ = false := frozen_of_row _ _ _ _ _ hrow
    have f1 : w2.frozen? ⟨w.heap.size, 1, none⟩ = false := frozen_of_row _ _ _ _ _ hrow
    clear HC2 hrow
    go_wp2_with fail
    refine bodyPost_ret (results_cell_row rfl _ _ w.heap.size 89 #[.int .i64 0, .int .i64 0] (0, 0) _ rfl ?_ Tryz.underlying89 rfl (by kernel_rfl)) rfl ?_
    · exact setCell_row _ (setCell_row _ HROW.out)
    · exact ⟨rfl, (hb2.setCell (p := ⟨w.heap.size, 0, none⟩) (Nat.le_refl _) _).setCell (p := ⟨w.heap.size, 1, none⟩) (Nat.le_refl _) _⟩

set_option maxRecDepth 100000 in
set_option maxHeartbeats 1000000 in
theorem mIn_any (w : World) (q : Option Addr) (s : St) (a n o : Int) (ha : a < 9223372036854775808) (hn : n < 9223372036854775808) (ho : o < 9223372036854775808) (h : ReadAt w.heap.size w q s) :
    Calls Tryz.prog 11 #[.pointer q, .int .i64 a, .int .i64 n, .int .i64 o] w fun e w' => e = .returned (.bool (mIn s a n o)) ∧ Below w.heap.size w w' := by
  have HR := Lib.hid (mrow_any w q s a n o ha hn ho h)
  have HE : Hid ((((mP s a n o).1 : Int) == 1) = mIn s a n o) := by
    show _ = _; unfold mIn; rw [Bool.eq_iff_iff]; simp only [beq_iff_eq]; omega
  generalize mIn s a n o = r at *
  generalize mP s a n o = p at *
  clear h
  have HX := idx2 p.1 p.2
  go_enter Tryz.func11, Tryz.ntmps11
  go_wp2_with fail
  refine Calls.mono HR.out ?_
  rintro e w1 ⟨rfl, hb⟩
  go_wp2_with fail
  go_ret
  exact ⟨congrArg (fun x => Ending.returned (.bool x)) HE.out, hb⟩

set_option maxRecDepth 100000 in
set_option maxHeartbeats 1000000 in
theorem mUntil_any (w : World) (q : Option Addr) (s : St) (a n o : Int) (ha : a < 9223372036854775808) (hn : n < 9223372036854775808) (ho : o < 9223372036854775808) (h : ReadAt w.heap.size w q s) :
    Calls Tryz.prog 10 #[.pointer q, .int .i64 a, .int .i64 n, .int .i64 o] w fun e w' => e = .returned (.tuple #[.int .i64 (mUntil s a n o).1, .bool (mUntil s a n o).2]) ∧ Below w.heap.size w w' := by
  have HR := Lib.hid (mrow_any w q s a n o ha hn ho h)
  have HE : Hid (mUntil s a n o = if (mP s a n o).1 = 2 then ((mP s a n o).2, true) else (0, false)) := rfl
  generalize mUntil s a n o = r at *
  generalize mP s a n o = p at *
  clear h
  cases h2 : ((p.1 : Int) == 2) with
  | true =>
    have hr : r = (p.2, true) := by rw [HE.out, if_pos (by have := eq_of_beq h2; omega)]
    subst hr
    clear HE
    go_enter Tryz.func10, Tryz.ntmps10
    go_wp2_with fail
    refine Calls.mono HR.out ?_
    rintro e w1 ⟨rfl, hb⟩
    go_wp2_with fail
    refine bodyPost_ret (results_tmp2 rfl _ _ _) rfl ?_
    exact ⟨rfl, bl_alloc hb _⟩
  | false =>
    have hr : r = (0, false) := by rw [HE.out, if_neg (fun h => by rw [h] at h2; cases h2)]
    subst hr
    clear HE
    go_enter Tryz.func10, Tryz.ntmps10
    go_wp2_with fail
    refine Calls.mono HR.out ?_
    rintro e w1 ⟨rfl, hb⟩
    go_wp2_with fail
    refine bodyPost_ret (results_tmp2 rfl _ _ _) rfl ?_
    exact ⟨rfl, bl_alloc hb _⟩

set_option maxRecDepth 100000 in
set_option maxHeartbeats 1000000 in
theorem mSlash_any (w : World) (q : Option Addr) (s : St) (a n o b : Int) (ha : a < 9223372036854775808) (hn : n < 9223372036854775808) (ho : o < 9223372036854775808) (h : ReadAt w.heap.size w q s) :
    Calls Tryz.prog 12 #[.pointer q, .int .i64 a, .int .i64 n, .int .i64 o, .int .i64 b] w fun e w' => e = .returned (.bool (mSlash s a n o b)) ∧ Below w.heap.size w w' := by
  have HI : Hid (Calls Tryz.prog 11 #[.pointer q, .int .i64 a, .int .i64 n, .int .i64 o] w fun e w1 => e = .returned (.bool (mIn s a n o)) ∧ Below w.heap.size w w1 ∧
      Calls Tryz.prog 10 #[.pointer q, .int .i64 a, .int .i64 n, .int .i64 o] w1 fun e w2 => e = .returned (.tuple #[.int .i64 (mUntil s a n o).1, .bool (mUntil s a n o).2]) ∧ Below w.heap.size w w2) := by
    refine (mIn_any w q s a n o ha hn ho h).mono fun e w1 ⟨he, hb⟩ => ⟨he, hb, ?_⟩
    exact (mUntil_any w1 q s a n o ha hn ho ((h.below hb).up hb.size)).mono fun e w2 ⟨he, hb2⟩ => ⟨he, bl_then hb hb2⟩
  have HE : Hid (mSlash s a n o b = (mIn s a n o || ((mUntil s a n o).2 && decide (b ≤ ((mUntil s a n o).1 : Int))))) := rfl
  generalize mSlash s a n o b = r at *
  generalize mIn s a n o = i at *
  generalize mUntil s a n o = u at *
  clear h
  obtain ⟨u, l⟩ := u
  simp only at HI HE
  cases i with
  | true =>
    go_enter Tryz.func12, Tryz.ntmps12
    go_wp2_with fail
    refine Calls.mono HI.out ?_
    rintro e w1 ⟨rfl, hb, _⟩
    go_wp2_with fail
    go_ret
    exact ⟨by rw [HE.out]; rfl, hb⟩
  | false =>
    cases l with
    | true =>
      go_enter Tryz.func12, Tryz.ntmps12
      go_wp2_with fail
      refine Calls.mono HI.out ?_
      rintro e w1 ⟨rfl, hb, hC⟩
      have HC := Lib.hid hC
      clear hC HI
      go_wp2_with fail
      refine Calls.mono HC.out ?_
      rintro e w2 ⟨rfl, hb2⟩
      go_wp2_with fail
      go_ret
      exact ⟨by rw [HE.out]; rfl, hb2⟩
    | false =>
      go_enter Tryz.func12, Tryz.ntmps12
      go_wp2_with fail
      refine Calls.mono HI.out ?_
      rintro e w1 ⟨rfl, hb, hC⟩
      have HC := Lib.hid hC
      clear hC HI
      go_wp2_with fail
      refine Calls.mono HC.out ?_
      rintro e w2 ⟨rfl, hb2⟩
      go_wp2_with fail
      go_ret
      exact ⟨by rw [HE.out]; rfl, hb2⟩
end Go.Proofs.YtngaogfhijaaaaaGreat
