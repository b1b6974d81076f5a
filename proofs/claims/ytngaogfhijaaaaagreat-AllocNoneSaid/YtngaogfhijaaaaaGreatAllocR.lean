/- What is proved here: alloc's readers: Current, Encumbered, Pending, over any store that is read; wad.One, wad.Good. Their condition: ints below 2^63. -/
import Derived.Test.YtngaogfhijaaaaaGreatAmt
import Derived.Test.YtngaogfhijaaaaaGreatMemP
namespace Go.Proofs.YtngaogfhijaaaaaGreat
open Go.RowKit

abbrev oneW : W4 := (1000000000000000000, 0, 0, 0)

set_option maxRecDepth 100000 in
set_option maxHeartbeats 1000000 in
theorem uof_any (n : Nat) (w : World) : Calls Tryz.prog 136 #[.int .u64 n] w fun e w' => e = .returned (uV (n, 0, 0, 0)) ∧ Below w.heap.size w w' := by
  have hb := bl_alloc (Below.refl _ w) (.cells (uL (n, 0, 0, 0)) 65)
  have hr : (w.alloc (.cells #[.int .u64 n, .int .u64 0, .int .u64 0, .int .u64 0] 65)).heap[w.heap.size]? = some (.cells (uL (n, 0, 0, 0)) 65 (0, 0)) := heap_alloc_new w (.cells (uL (n, 0, 0, 0)) 65)
  have HR := Lib.hid hr
  have HB := Lib.hid hb
  clear hr hb
  go_enter Tryz.func136, Tryz.ntmps136
  go_wp2_with fail
  refine bodyPost_ret (results_cell_row rfl _ _ w.heap.size 65 (uL (n, 0, 0, 0)) (0, 0) _ rfl HR.out Tryz.underlying65 rfl (by kernel_rfl)) rfl ?_
  exact ⟨rfl, HB.out⟩

/-- An amount's cells. -/
abbrev Cel4 (g : Nat) (x : W4) (w' : World) : Prop := w'.cell? ⟨g, 0, none⟩ = some (.int .u64 x.1) ∧ w'.cell? ⟨g, 1, none⟩ = some (.int .u64 x.2.1) ∧ w'.cell? ⟨g, 2, none⟩ = some (.int .u64 x.2.2.1) ∧ w'.cell? ⟨g, 3, none⟩ = some (.int .u64 x.2.2.2)
theorem cel4_below {w w' : World} {g : Nat} {x : W4} (h : Cel4 g x w) (hb : Below w.heap.size w w') : Cel4 g x w' := ⟨bl_cell hb h.1, bl_cell hb h.2.1, bl_cell hb h.2.2.1, bl_cell hb h.2.2.2⟩
theorem cel4_row {w : World} {g : Nat} {x : W4} (h : w.heap[g]? = some (.cells (uL x) 65 (0, 0))) : Cel4 g x w := by
  obtain ⟨a, b, c, d, _⟩ := row4 h
  exact ⟨a, b, c, d⟩

/-- A new row of an amount, behind a call: what it is, and what is stored into it. -/
theorem newRow {w w' : World} (x : W4) (hb : Below (w.alloc (.cells (uL x) 65)).heap.size (w.alloc (.cells (uL x) 65)) w') : Below w.heap.size w w' ∧ w'.heap[w.heap.size]? = some (.cells (uL x) 65 (0, 0)) :=
  ⟨bl_then (bl_alloc (Below.refl _ w) _) hb, (hb.block _ (by simp)).trans (heap_alloc_new w (.cells (uL x) 65))⟩

set_option maxRecDepth 100000 in
set_option maxHeartbeats 1000000 in
theorem one_any (w : World) : Calls Tryz.prog 78 #[] w fun e w' => e = .returned (uV oneW) ∧ Below w.heap.size w w' := by
  have HO : Hid (Calls Tryz.prog 136 #[.int .u64 1000000000000000000] (w.alloc (.cells (uL (0, 0, 0, 0)) 65)) fun e w' => e = .returned (uV oneW) ∧ Below w.heap.size w w' ∧ w'.heap[w.heap.size]? = some (.cells (uL (0, 0, 0, 0)) 65 (0, 0))) :=
    (uof_any 1000000000000000000 _).mono fun e w' ⟨he, hb⟩ => ⟨he, newRow _ hb⟩
  go_enter Tryz.func78, Tryz.ntmps78
  go_wp2_with fail
  refine HO.out.mono ?_
  rintro e w3 ⟨rfl, hb3, hrow⟩
  have HR := Lib.hid hrow
  obtain ⟨_, _, _, _, r0, r1, r2, r3⟩ := row4 hrow
  clear hrow HO
  go_wp2_with fail
  refine bodyPost_ret (results_cell_row rfl _ _ w.heap.size 65 (uL oneW) (0, 0) _ rfl (put4 HR.out oneW) Tryz.underlying65 rfl (by kernel_rfl)) rfl ?_
  exact ⟨rfl, put4_below hb3 (by omega) _ _ _ _⟩

theorem one_ok : W4.Ok oneW := ⟨by decide, by decide, by decide, by decide⟩

set_option maxRecDepth 100000 in
set_option maxHeartbeats 4000000 in
theorem wgood_any (x : W4) (hx : x.Ok) (w : World) : Calls Tryz.prog 59 #[uV x] w fun e w' => e = .returned (.bool (decide (uCmp x oneW ≤ 0))) ∧ Below w.heap.size w w' := by
  have hb0 := bl_alloc (Below.refl _ w) (.cells (uL x) 65)
  have hrow := heap_alloc_new w (.cells (uL x) 65)
  obtain ⟨q0, q1, q2, q3, _⟩ := row4 hrow
  have HO : Hid (∀ W, Cel4 w.heap.size x W → Below w.heap.size w W → Calls Tryz.prog 78 #[] W fun e w' => e = .returned (uV oneW) ∧ Below w.heap.size w w' ∧ Cel4 w.heap.size x w') := fun W hW hb =>
    (one_any W).mono fun e w' ⟨he, h1⟩ => ⟨he, bl_then hb h1, cel4_below hW h1⟩
  have HC : Hid (∀ W, Cel4 w.heap.size x W → Below w.heap.size w W → Calls Tryz.prog 118 #[uV x, uV oneW] W fun e w' => e = .returned (.int .i64 (uCmp x oneW)) ∧ Below w.heap.size w w' ∧ Cel4 w.heap.size x w') := fun W hW hb => (ucmp_any x oneW hx one_ok W).mono fun e w' ⟨he, h1⟩ => ⟨he, bl_then hb h1, cel4_below hW h1⟩
  have HB := Lib.hid (bl_drew hb0)
  clear hb0 hrow
  generalize uCmp x oneW = r at *
  go_enter Tryz.func59, Tryz.ntmps59
  go_wp2_with fail
  go_region_held3 (fun w' => w'.cell? ⟨w.heap.size, 0, none⟩ = some (.int .u64 x.1) ∧ w'.cell? ⟨w.heap.size, 1, none⟩ = some (.int .u64 x.2.1) ∧ w'.cell? ⟨w.heap.size, 2, none⟩ = some (.int .u64 x.2.2.1) ∧ w'.cell? ⟨w.heap.size, 3, none⟩ = some (.int .u64 x.2.2.2)) (first | assumption | go_keep)
    (first
      | (go_at_call 78; refine Calls.mono (HO.out _ ⟨by assumption, by assumption, by assumption, by assumption⟩ HB.out) ?_; rintro e w2 ⟨rfl, hb2, e0, e1, e2, e3⟩)
      | (go_at_call 118; refine Calls.mono (HC.out _ ⟨by assumption, by assumption, by assumption, by assumption⟩ hb2) ?_; rintro e w3 ⟨rfl, hb3, f0, f1, f2, f3⟩))
  all_goals
    go_wp2_with fail
    go_ret
    exact ⟨rfl, hb3⟩

/-- Which magnitude: four numbers. -/
abbrev I4 := Int × Int × Int × Int
abbrev I4.l (x : I4) : List Int := [x.1, x.2.1, x.2.2.1, x.2.2.2]
abbrev idL (x : I4) : Array Value := #[.int .i64 x.1, .int .i64 x.2.1, .int .i64 x.2.2.1, .int .i64 x.2.2.2]
abbrev idV (x : I4) : Value := .agg (idL x)
def I4.Ok (x : I4) : Prop := ∀ n ∈ x.l, n < 9223372036854775808
abbrev IdC (g : Nat) (x : I4) (w' : World) : Prop := w'.cell? ⟨g, 0, none⟩ = some (.int .i64 x.1) ∧ w'.cell? ⟨g, 1, none⟩ = some (.int .i64 x.2.1) ∧ w'.cell? ⟨g, 2, none⟩ = some (.int .i64 x.2.2.1) ∧ w'.cell? ⟨g, 3, none⟩ = some (.int .i64 x.2.2.2)
theorem idc_row {w : World} {g : Nat} {x : I4} {t : TypeId} (h : w.heap[g]? = some (.cells (idL x) t (0, 0))) : IdC g x w :=
  ⟨by rw [cell_of_row _ _ _ _ _ _ h]; rfl, by rw [cell_of_row _ _ _ _ _ _ h]; rfl, by rw [cell_of_row _ _ _ _ _ _ h]; rfl, by rw [cell_of_row _ _ _ _ _ _ h]; rfl⟩
theorem idc_below {w w' : World} {g : Nat} {x : I4} (h : IdC g x w) (hb : Below w.heap.size w w') : IdC g x w' := ⟨bl_cell hb h.1, bl_cell hb h.2.1, bl_cell hb h.2.2.1, bl_cell hb h.2.2.2⟩
def aKey (t : Nat) (x : I4) : ByteArray := keyL t x.l
def aAll (x : I4) : ByteArray := keyL 32 [x.1, x.2.1]

set_option maxRecDepth 100000 in
set_option maxHeartbeats 1000000 in
theorem akey_any (t : Nat) (ht1 : 1 ≤ t) (ht2 : t ≤ 255) (x : I4) (hx : x.Ok) (w : World) : Calls Tryz.prog 66 #[idV x, .int .i64 t] w fun e w' => e = .returned (.string (aKey t x)) ∧ Below w.heap.size w w' := by
  have hc0 := idc_row (heap_alloc_new w (.cells (idL x) 62))
  obtain ⟨q0, q1, q2, q3⟩ := hc0
  have HK : Hid (Calls Tryz.prog 75 #[.int .i64 t, .slice (some ⟨w.heap.size + 1, 0, none⟩) 4 4] ((w.alloc (.cells (idL x) 62)).alloc (.cells (idL x) 3)) fun e w' => e = .returned (.string (aKey t x)) ∧ Below w.heap.size w w') := by
    have hr := heap_alloc_new (w.alloc (.cells (idL x) 62)) (.cells (idL x) 3)
    rw [World.size_alloc] at hr
    obtain ⟨c0, c1, c2, c3⟩ := idc_row hr
    refine (key_any t ht1 ht2 _ x.l _ (intsAt_cells (g := w.heap.size + 1) (l := x.l) fun j z hj => ?_) (by simp) hx).mono fun e w' ⟨he, hb⟩ => ⟨he, bl_then (bl_alloc (bl_alloc (Below.refl _ w) _) _) hb⟩
    match j, hj with
    | 0, hj => cases hj; exact c0
    | 1, hj => cases hj; exact c1
    | 2, hj => cases hj; exact c2
    | 3, hj => cases hj; exact c3
  generalize aKey t x = k at *
  go_enter Tryz.func66, Tryz.ntmps66
  go_wp2_with (go_at_call 75; refine HK.out.mono ?_; rintro e w1 ⟨rfl, h1⟩)
  go_ret
  exact ⟨rfl, h1⟩

theorem two_ints' (w : World) (g : Nat) (a b : Int) (hr : w.heap[g]? = some (.cells #[.int .i64 a, .int .i64 b] 3 (0, 0))) : IntsAt w (.slice (some ⟨g, 0, none⟩) 2 2) [a, b] :=
  intsAt_cells (g := g) (l := [a, b]) fun j z hj => by
    rw [cell_of_row _ _ _ _ _ _ hr]
    match j, hj with
    | 0, hj => cases hj; rfl
    | 1, hj => cases hj; rfl

set_option maxRecDepth 100000 in
set_option maxHeartbeats 1000000 in
theorem aall_any (x : I4) (hx : x.Ok) (w : World) : Calls Tryz.prog 71 #[idV x] w fun e w' => e = .returned (.string (aAll x)) ∧ Below w.heap.size w w' := by
  have hc0 := idc_row (heap_alloc_new w (.cells (idL x) 62))
  obtain ⟨q0, q1, _⟩ := hc0
  have HK : Hid (Calls Tryz.prog 75 #[.int .i64 32, .slice (some ⟨w.heap.size + 1, 0, none⟩) 2 2] ((w.alloc (.cells (idL x) 62)).alloc (.cells #[.int .i64 x.1, .int .i64 x.2.1] 3)) fun e w' => e = .returned (.string (aAll x)) ∧ Below w.heap.size w w') := by
    have hr := heap_alloc_new (w.alloc (.cells (idL x) 62)) (.cells #[.int .i64 x.1, .int .i64 x.2.1] 3)
    rw [World.size_alloc] at hr
    exact (key_any 32 (by decide) (by decide) _ [x.1, x.2.1] _ (two_ints' _ _ _ _ hr) (by simp) (fun m hm => hx m (by
      simp only [List.mem_cons, List.not_mem_nil, or_false] at hm ⊢
      rcases hm with rfl | rfl <;> simp))).mono fun e w' ⟨he, hb⟩ => ⟨he, bl_then (bl_alloc (bl_alloc (Below.refl _ w) _) _) hb⟩
  generalize aAll x = k at *
  go_enter Tryz.func71, Tryz.ntmps71
  go_wp2_with (go_at_call 75; refine HK.out.mono ?_; rintro e w1 ⟨rfl, h1⟩)
  go_ret
  exact ⟨rfl, h1⟩

def cur (s : St) (x : I4) : W4 := toAmt (s.val (aKey 29 x))
def enc (s : St) (x : I4) : W4 := toAmt (s.val (aAll x))

theorem newRow2 {w w' : World} (o : Obj) (x : W4) (hb : Below ((w.alloc o).alloc (.cells (uL x) 65)).heap.size ((w.alloc o).alloc (.cells (uL x) 65)) w') : Below w.heap.size w w' ∧ w'.heap[w.heap.size + 1]? = some (.cells (uL x) 65 (0, 0)) := by
  have := heap_alloc_new (w.alloc o) (.cells (uL x) 65)
  rw [World.size_alloc] at this
  exact ⟨bl_then (bl_alloc (bl_alloc (Below.refl _ w) _) _) hb, (hb.block _ (by simp)).trans this⟩

set_option maxRecDepth 100000 in
set_option maxHeartbeats 1000000 in
theorem current_any (w : World) (q : Option Addr) (s : St) (x : I4) (hx : x.Ok) (h : ReadAt w.heap.size w q s) : Calls Tryz.prog 26 #[.pointer q, idV x] w fun e w' => e = .returned (uV (cur s x)) ∧ Below w.heap.size w w' := by
  have hb0 := bl_alloc (bl_alloc (Below.refl _ w) (.cells (idL x) 62)) (.cells (uL (0, 0, 0, 0)) 65)
  have hrow : ((w.alloc (.cells (idL x) 62)).alloc (.cells (uL (0, 0, 0, 0)) 65)).heap[w.heap.size]? = some (.cells (idL x) 62 (0, 0)) := by
    rw [heap_alloc_old _ _ (by simp)]; exact heap_alloc_new w (.cells (idL x) 62)
  have hc : IdC w.heap.size x ((w.alloc (.cells (idL x) 62)).alloc (.cells #[.int .u64 0, .int .u64 0, .int .u64 0, .int .u64 0] 65)) := idc_row hrow
  obtain ⟨q0, q1, q2, q3⟩ := hc
  have HC : Hid (Calls Tryz.prog 66 #[idV x, .int .i64 29] ((w.alloc (.cells (idL x) 62)).alloc (.cells (uL (0, 0, 0, 0)) 65)) fun e w1 => e = .returned (.string (aKey 29 x)) ∧
    Calls Tryz.prog 67 #[.pointer q, .string (aKey 29 x)] w1 fun e w2 => e = .returned (uV (cur s x)) ∧ Below w.heap.size w w2 ∧ w2.heap[w.heap.size + 1]? = some (.cells (uL (0, 0, 0, 0)) 65 (0, 0))) := by
    refine (akey_any 29 (by decide) (by decide) x hx _).mono fun e w1 ⟨he, hb⟩ => ⟨he, ?_⟩
    obtain ⟨hb1, hr1⟩ := newRow2 _ _ hb
    refine (((h.below hb1).up hb1.size).amount (aKey 29 x)).mono fun e w2 ⟨he, hb2⟩ => ⟨he, bl_then hb1 hb2, (hb2.block _ (Array.getElem?_eq_some_iff.1 hr1).1).trans hr1⟩
  clear hb0 hrow h
  generalize cur s x = y at *
  generalize aKey 29 x = k at *
  go_enter Tryz.func26, Tryz.ntmps26
  go_wp2_with fail
  refine Calls.mono HC.out ?_
  rintro e w1 ⟨rfl, hD⟩
  have HD := Lib.hid hD
  clear hD HC
  go_wp2_with fail
  refine Calls.mono HD.out ?_
  rintro e w3 ⟨rfl, hb3, hrow⟩
  have HR := Lib.hid hrow
  obtain ⟨_, _, _, _, r0, r1, r2, r3⟩ := row4 hrow
  clear hrow HD
  go_wp2_with fail
  refine bodyPost_ret (results_cell_row rfl _ _ (w.heap.size + 1) 65 (uL y) (0, 0) _ rfl (put4 HR.out y) Tryz.underlying65 rfl (by kernel_rfl)) rfl ?_
  exact ⟨rfl, put4_below hb3 (by omega) _ _ _ _⟩

set_option maxRecDepth 100000 in
set_option maxHeartbeats 1000000 in
theorem encumbered_any (w : World) (q : Option Addr) (s : St) (a b : Int) (ha : a < 9223372036854775808) (hb : b < 9223372036854775808) (h : ReadAt w.heap.size w q s) : Calls Tryz.prog 27 #[.pointer q, .int .i64 a, .int .i64 b] w fun e w' => e = .returned (uV (toAmt (s.val (keyL 32 [a, b])))) ∧ Below w.heap.size w w' := by
  have HC : Hid (Calls Tryz.prog 75 #[.int .i64 32, .slice (some ⟨w.heap.size + 1, 0, none⟩) 2 2] ((w.alloc (.cells (uL (0, 0, 0, 0)) 65)).alloc (.cells #[.int .i64 a, .int .i64 b] 3)) fun e w1 => e = .returned (.string (keyL 32 [a, b])) ∧
    Calls Tryz.prog 67 #[.pointer q, .string (keyL 32 [a, b])] w1 fun e w2 => e = .returned (uV (toAmt (s.val (keyL 32 [a, b])))) ∧ Below w.heap.size w w2 ∧ w2.heap[w.heap.size]? = some (.cells (uL (0, 0, 0, 0)) 65 (0, 0))) := by
    have hr := heap_alloc_new (w.alloc (.cells (uL (0, 0, 0, 0)) 65)) (.cells #[.int .i64 a, .int .i64 b] 3)
    rw [World.size_alloc] at hr
    refine (key_any 32 (by decide) (by decide) _ [a, b] _ (two_ints' _ _ _ _ hr) (by simp) (fun m hm => by
      simp only [List.mem_cons, List.not_mem_nil, or_false] at hm
      rcases hm with rfl | rfl <;> assumption)).mono fun e w1 ⟨he, hb1⟩ => ⟨he, ?_⟩
    have hbb := bl_then (bl_alloc (bl_alloc (Below.refl _ w) _) _) hb1
    have hr1 : w1.heap[w.heap.size]? = some (.cells (uL (0, 0, 0, 0)) 65 (0, 0)) := by
      rw [hb1.block _ (by simp; omega), heap_alloc_old _ _ (by simp)]; exact heap_alloc_new w (.cells (uL (0, 0, 0, 0)) 65)
    exact (((h.below hbb).up hbb.size).amount _).mono fun e w2 ⟨he, hb2⟩ => ⟨he, bl_then hbb hb2, (hb2.block _ (Array.getElem?_eq_some_iff.1 hr1).1).trans hr1⟩
  clear h
  generalize toAmt (s.val (keyL 32 [a, b])) = y at *
  generalize keyL 32 [a, b] = k at *
  go_enter Tryz.func27, Tryz.ntmps27
  go_wp2_with fail
  refine Calls.mono HC.out ?_
  rintro e w1 ⟨rfl, hD⟩
  have HD := Lib.hid hD
  clear hD HC
  go_wp2_with fail
  refine Calls.mono HD.out ?_
  rintro e w3 ⟨rfl, hb3, hrow⟩
  have HR := Lib.hid hrow
  obtain ⟨_, _, _, _, r0, r1, r2, r3⟩ := row4 hrow
  clear hrow HD
  go_wp2_with fail
  refine bodyPost_ret (results_cell_row rfl _ _ w.heap.size 65 (uL y) (0, 0) _ rfl (put4 HR.out y) Tryz.underlying65 rfl (by kernel_rfl)) rfl ?_
  exact ⟨rfl, put4_below hb3 (by omega) _ _ _ _⟩

/-- What is pending: which way, by how much, at which block. -/
def pendOf (l : List Nat) (y : W4) : Nat × W4 × Nat := match l with
  | [a, b] => (a, y, b)
  | _ => (0, (0, 0, 0, 0), 0)
def pend (s : St) (x : I4) : Nat × W4 × Nat := pendOf (rowOf (s.val (aKey 30 x))) (toAmt (s.val (aKey 31 x)))

theorem results_tmp_row_tmp {P : Program} {fn : Func} {u p v : Tmp} {ty : TypeId} (h : fn.results = #[.tmp u, .cell p ty, .tmp v]) (tmps : Array Value) (w : World) (g : Nat) (t : TypeId) (cs : Array Value) (fr : Nat × Nat) (d : TypeDesc)
    (hp : tmps.getD p undef = .pointer (some ⟨g, 0, none⟩)) (hg : w.heap[g]? = some (.cells cs t fr))
    (hu : P.underlying ty = some d) (hd : (match d with | .struct _ | .array _ _ => true | _ => false) = true) (hi : (P.info? ty).map (·.size) = some cs.size) :
    (results fn tmps).run P w = .ok (.tuple #[tmps.getD u undef, .agg cs, tmps.getD v undef]) w := by
  have hp' : tmps[p]?.getD undef = .pointer (some ⟨g, 0, none⟩) := by simpa using hp
  simp [results, h, hp', asAddr, Result.andThen, run_loadVar_row w g t ty cs fr d hg hu hd hi]
end Go.Proofs.YtngaogfhijaaaaaGreat
