/- What is proved here: the plain model of services' sets; a strategy that is none, and any: vault.of, Info, service.known, and the reference's own. Their conditions: sizes. -/
import Derived.Test.YtnblhjndngpbnaaGreatServ4
import Derived.Test.YtnblhjndngpbnaaGreatKeyG
namespace Go.Proofs.YtnblhjndngpbnaaGreat
open Go.RowKit

/-- What is said of a strategy. -/
def sInfo (s : St) (g : Int) : Option (Nat × Nat) := match numsL (s.val (keyL 5 [g])).data.toList with
  | some [x, y] => some (x, y)
  | _ => none
def sKnown (s : St) (g : Int) : Bool := (sInfo s g).isSome
def sHas (s : St) (a n g : Int) : Bool := s.int (keyL 23 [a, n, g]) == 1
def sReg (s : St) (a : Int) : Int × St := if isB a = false then (2, s) else if sIs s a then (9, s) else (0, s.setInt (keyL 21 [a]) 1)
def risesL : List Int → Bool
  | a :: b :: l => decide (a < b) && risesL (b :: l)
  | _ => true
def riseL (l : List Int) : Bool := risesL l && (decide (1 ≤ l.length) && decide (l.length ≤ 8))
def putL (s : St) (a n : Int) : List Int → St
  | [] => s
  | g :: l => putL (s.setInt (keyL 23 [a, n, g]) 1) a n l
def sNewL (s : St) (a : Int) (l : List Int) : (Int × Int) × St :=
  if sIs s a = false then ((0, 8), s) else if riseL l = false then ((0, 2), s) else if l.any (fun g => !sKnown s g) then ((0, 8), s) else if 16 ≤ sSets s a then ((0, 7), s)
  else (((sSets s a : Int), 0), putL (s.setInt (keyL 22 [a]) ((sSets s a : Nat) + 1 : Int)) a (sSets s a) l)
/-- A key's three numbers. -/
def nums3 (k : ByteArray) : Option (Nat × Nat × Nat) := match parseK k with
  | some (_, [x, y, z]) => some (x, y, z)
  | _ => none
def thirdOf (x : Ent) : Option Int := (nums3 x.1).map fun y => (y.2.2 : Int)
def strU (s : St) (a n : Int) : List Int := (underE (keyL 23 [a, n]) s.ents).filterMap thirdOf
def strL (s : St) (a n : Int) : List Int := if sThere s a n then strU s a n else []
def sInc (s : St) (a n g : Int) : Int × St := if sThere s a n = false then (8, s) else if sKnown s g = false then (8, s) else if sHas s a n g then (9, s) else if 8 ≤ (strL s a n).length then (7, s) else (0, s.setInt (keyL 23 [a, n, g]) 1)
def sExc (s : St) (a n g : Int) : Int × St := (if (getE s.ents (keyL 23 [a, n, g])).isSome then 0 else 8, s.del (keyL 23 [a, n, g]))
def vNewG (s : St) : (Int × Int) × St := if 32 ≤ s.int K5 then ((0, 7), s) else ((((s.int K5 : Nat) + 1 : Int), 0), vNew s)

theorem sInfo_some {s : St} {g : Int} {p : Nat × Nat} (h : sInfo s g = some p) : numsL (s.val (keyL 5 [g])).data.toList = some [p.1, p.2] := by
  unfold sInfo at h
  split at h
  · rename_i hx; cases h; exact hx
  · cases h

/-- What vault.of makes of a value that says no strategy. -/
theorem nums_notwo {w w' : World} {v : ByteArray} {e : Ending} (h : RetNumsG w (numsL v.data.toList) e w') (hn : ∀ x y, numsL v.data.toList ≠ some [x, y]) : Below w.heap.size w w' ∧ ∃ (a : Option Addr) (m c : Nat) (ok : Bool), e = .returned (.tuple #[.slice a m c, .bool ok]) ∧ (ok = true → ((m : Int) == 2) = false) := by
  obtain ⟨hb, h⟩ := h
  refine ⟨hb, ?_⟩
  cases hp : numsL v.data.toList with
  | none =>
    rw [hp] at h
    exact ⟨none, 0, 0, false, h, fun h => by cases h⟩
  | some ns =>
    rw [hp] at h
    obtain ⟨u, he, ho, _⟩ := h
    obtain ⟨a, c, rfl, _⟩ := ho.form
    refine ⟨a, ns.length, c, true, he, fun _ => ?_⟩
    rw [beq_eq_false_iff_ne]
    intro e1
    have h1 : ns.length = 2 := by omega
    match ns, h1 with
    | [x, y], _ => exact hn x y hp

set_option maxRecDepth 100000 in
set_option maxHeartbeats 4000000 in
theorem vof_no (w : World) (b : Nat) (s : St) (L : List Nat) (f : Nat) (n : Int) (hn : n < 9223372036854775808) (h : SRep w b s L) (hf : s.Fit f) (hr : ∀ x y, numsL (s.val (keyL 5 [n])).data.toList ≠ some [x, y]) :
    Calls Tryz.prog 40 #[.pointer (some ⟨b, 0, none⟩), .int .i64 n] w fun e w' => e = .returned (.tuple #[.agg #[.pointer none, .int .i64 0, .int .i64 0, .bool false], .bool false]) ∧ Below w.heap.size w w' := by
  have HC : Hid (∀ w0, Below w.heap.size w w0 → Calls Tryz.prog 36 #[.int .i64 5, .slice (some ⟨w0.heap.size, 0, none⟩) 1 1] (w0.alloc (.cells #[.int .i64 n] 3)) fun e w1 => e = .returned (.string (keyL 5 [n])) ∧
      Calls Tryz.prog 76 #[.pointer (some ⟨b, 0, none⟩), .string (keyL 5 [n])] w1 fun e w2 => ∃ ok : Bool, e = .returned (.tuple #[.string (s.val (keyL 5 [n])), .bool ok]) ∧
      Calls Tryz.prog 72 #[.string (s.val (keyL 5 [n]))] w2 fun e w3 => (∃ (a : Option Addr) (m c : Nat) (ok : Bool), e = .returned (.tuple #[.slice a m c, .bool ok]) ∧ (ok = true → ((m : Int) == 2) = false)) ∧ Below w0.heap.size w0 w3 ∧ Below w.heap.size w w3) := fun w0 hb0 => by
    refine (key_new1 5 (by decide) (by decide) n hn w0).mono fun e w1 ⟨he, hb1⟩ => ⟨he, ?_⟩
    refine (get_any w1 b s L (keyL 5 [n]) (h.below (bl_then hb0 hb1))).mono fun e w2 ⟨he, hw⟩ => ⟨_, he, ?_⟩
    subst hw
    refine (nums_any _ (hf.val' _) w1).mono fun e w3 hR => ?_
    obtain ⟨hb3, hx⟩ := nums_notwo hR hr
    exact ⟨hx, bl_then hb1 hb3, bl_then (bl_then hb0 hb1) hb3⟩
  generalize s.val (keyL 5 [n]) = vv at *
  generalize keyL 5 [n] = kk at *
  clear h hf hr
  have hb0 : Below w.heap.size w (w.alloc (.cells #[.pointer none, .int .i64 0, .int .i64 0, .bool false] 79)) := (Below.refl _ w).alloc (Nat.le_refl _) _
  have HC1 := HC.out _ hb0
  simp only [World.size_alloc] at HC1
  have HC1 := Lib.hid HC1
  have HBX : Hid (∀ w3, Below (w.heap.size + 1) (w.alloc (.cells #[.pointer none, .int .i64 0, .int .i64 0, .bool false] 79)) w3 → (w3.cell? ⟨w.heap.size, 0, none⟩ = some (.pointer none) ∧ w3.cell? ⟨w.heap.size, 1, none⟩ = some (.int .i64 0) ∧ w3.cell? ⟨w.heap.size, 2, none⟩ = some (.int .i64 0) ∧ w3.cell? ⟨w.heap.size, 3, none⟩ = some (.bool false)) ∧ (w3.frozen? ⟨w.heap.size, 0, none⟩ = false ∧ w3.frozen? ⟨w.heap.size, 1, none⟩ = false ∧ w3.frozen? ⟨w.heap.size, 2, none⟩ = false ∧ w3.frozen? ⟨w.heap.size, 3, none⟩ = false)) := fun w3 hb => by
    have hrow : w3.heap[w.heap.size]? = some (.cells #[.pointer none, .int .i64 0, .int .i64 0, .bool false] 79 (0, 0)) := (hb.block _ (by omega)).trans (heap_alloc_new w _)
    exact ⟨⟨by rw [cell_of_row _ _ _ _ _ _ hrow]; rfl, by rw [cell_of_row _ _ _ _ _ _ hrow]; rfl, by rw [cell_of_row _ _ _ _ _ _ hrow]; rfl, by rw [cell_of_row _ _ _ _ _ _ hrow]; rfl⟩, frozen_of_row _ _ _ _ _ hrow, frozen_of_row _ _ _ _ _ hrow, frozen_of_row _ _ _ _ _ hrow, frozen_of_row _ _ _ _ _ hrow⟩
  clear HC hb0
  go_enter Tryz.func40, Tryz.ntmps40
  go_wp2_with fail
  refine Calls.mono HC1.out ?_
  rintro e w1 ⟨rfl, hC⟩
  have HC2 := Lib.hid hC
  clear hC HC1
  go_wp2_with fail
  refine Calls.mono HC2.out ?_
  rintro e w2 ⟨ok, rfl, hC⟩
  have HC3 := Lib.hid hC
  clear hC HC2
  go_wp2_with fail
  refine Calls.mono HC3.out ?_
  rintro e w3 ⟨⟨ad, m, c, ok3, rfl, hm⟩, hb3, hbw⟩
  obtain ⟨⟨q0, q1, q2, q3⟩, f0, f1, f2, f3⟩ := HBX.out w3 hb3
  have hrow : w3.heap[w.heap.size]? = some (.cells #[.pointer none, .int .i64 0, .int .i64 0, .bool false] 79 (0, 0)) := (hb3.block _ (by omega)).trans (heap_alloc_new w _)
  have HROW := Lib.hid hrow
  clear HC3 HBX hb3 hrow
  cases ok3 with
  | false =>
    go_wp2_with fail
    refine bodyPost_ret (results_cell_row2 rfl _ _ w.heap.size 79 #[.pointer none, .int .i64 0, .int .i64 0, .bool false] (0, 0) _ rfl ?_ Tryz.underlying79 rfl (by kernel_rfl)) rfl ?_
    · exact setCell_row _ (setCell_row _ (setCell_row _ (setCell_row _ HROW.out)))
    · exact ⟨rfl, (((hbw.setCell (p := ⟨w.heap.size, 0, none⟩) (Nat.le_refl _) _).setCell (p := ⟨w.heap.size, 1, none⟩) (Nat.le_refl _) _).setCell (p := ⟨w.heap.size, 2, none⟩) (Nat.le_refl _) _).setCell (p := ⟨w.heap.size, 3, none⟩) (Nat.le_refl _) _⟩
  | true =>
    have hm2 := hm rfl
    go_wp2_with fail
    refine bodyPost_ret (results_cell_row2 rfl _ _ w.heap.size 79 #[.pointer none, .int .i64 0, .int .i64 0, .bool false] (0, 0) _ rfl ?_ Tryz.underlying79 rfl (by kernel_rfl)) rfl ?_
    · exact setCell_row _ (setCell_row _ (setCell_row _ (setCell_row _ HROW.out)))
    · exact ⟨rfl, (((hbw.setCell (p := ⟨w.heap.size, 0, none⟩) (Nat.le_refl _) _).setCell (p := ⟨w.heap.size, 1, none⟩) (Nat.le_refl _) _).setCell (p := ⟨w.heap.size, 2, none⟩) (Nat.le_refl _) _).setCell (p := ⟨w.heap.size, 3, none⟩) (Nat.le_refl _) _⟩

set_option maxRecDepth 100000 in
set_option maxHeartbeats 2000000 in
theorem vinfo_no (w : World) (b : Nat) (s : St) (L : List Nat) (f : Nat) (n : Int) (hn : n < 9223372036854775808) (h : SRep w b s L) (hf : s.Fit f) (hr : ∀ x y, numsL (s.val (keyL 5 [n])).data.toList ≠ some [x, y]) :
    Calls Tryz.prog 11 #[.pointer (some ⟨b, 0, none⟩), .int .i64 n] w fun e w' => e = .returned (.tuple #[.int .i64 0, .bool false, .bool false]) ∧ Below w.heap.size w w' := by
  have HO := Lib.hid (vof_no w b s L f n hn h hf hr)
  clear h hf hr
  go_enter Tryz.func11, Tryz.ntmps11
  go_wp2_with fail
  refine HO.out.mono ?_
  rintro e w1 ⟨rfl, hb1⟩
  have hb2 := bl_alloc hb1 (.cells #[.pointer none, .int .i64 0, .int .i64 0, .bool false] 79)
  have q2 : (w1.alloc (.cells #[.pointer none, .int .i64 0, .int .i64 0, .bool false] 79)).cell? ⟨w1.heap.size, 2, none⟩ = some (.int .i64 0) := by rw [cell_of_row _ _ _ _ _ _ (heap_alloc_new w1 _)]; rfl
  have q3 : (w1.alloc (.cells #[.pointer none, .int .i64 0, .int .i64 0, .bool false] 79)).cell? ⟨w1.heap.size, 3, none⟩ = some (.bool false) := by rw [cell_of_row _ _ _ _ _ _ (heap_alloc_new w1 _)]; rfl
  go_wp2_with fail
  go_region
  all_goals
    go_wp2_with fail
    go_ret3
    exact ⟨rfl, bl_drew hb2⟩

/-- Info's third answer: is there such a strategy? -/
theorem vinfo_all (w : World) (b : Nat) (s : St) (L : List Nat) (f : Nat) (n : Int) (hn : n < 9223372036854775808) (h : SRep w b s L) (hf : s.Fit f) :
    Calls Tryz.prog 11 #[.pointer (some ⟨b, 0, none⟩), .int .i64 n] w fun e w' => ∃ (t : Int) (on : Bool), e = .returned (.tuple #[.int .i64 t, .bool on, .bool (sKnown s n)]) ∧ Below w.heap.size w w' := by
  unfold sKnown
  cases hk : sInfo s n with
  | some p => exact (vinfo_any w b s L f n p.1 p.2 hn h hf (sInfo_some hk)).mono fun e w' ⟨he, hb⟩ => ⟨_, _, he, hb⟩
  | none =>
    refine (vinfo_no w b s L f n hn h hf fun x y hx => ?_).mono fun e w' ⟨he, hb⟩ => ⟨_, _, he, hb⟩
    unfold sInfo at hk
    rw [hx] at hk; cases hk

set_option maxRecDepth 100000 in
set_option maxHeartbeats 2000000 in
theorem known_all (w : World) (b : Nat) (s : St) (L : List Nat) (f : Nat) (n : Int) (hn : n < 9223372036854775808) (h : SRep w b s L) (hf : s.Fit f) :
    Calls Tryz.prog 56 #[.pointer (some ⟨b, 0, none⟩), .int .i64 n] w (RetBool w (sKnown s n)) := by
  have HO := Lib.hid (vinfo_all w b s L f n hn h hf)
  generalize sKnown s n = kn at *
  clear h hf
  go_enter Tryz.func56, Tryz.ntmps56
  go_wp2_with fail
  refine HO.out.mono ?_
  rintro e w1 ⟨t, on, rfl, hb1⟩
  go_wp2_with fail
  go_ret
  exact ⟨rfl, hb1⟩

set_option maxRecDepth 100000 in
set_option maxHeartbeats 2000000 in
theorem rinfo_no (w : World) (b : Nat) (s : St) (L : List Nat) (f : Nat) (n : Int) (hn : n < 9223372036854775808) (h : RRep w b s L) (hf : s.Fit f) (hm : f < 10000000000) (hr : ∀ x y, numsL (s.val (keyL 5 [n])).data.toList ≠ some [x, y]) :
    Calls Tryz.prog 87 #[.pointer (some ⟨b, 0, none⟩), .int .i64 n] w fun e w' => e = .returned (.tuple #[.int .i64 0, .bool false, .bool false]) ∧ Below w.heap.size w w' := by
  have hz : s.size < 1000000000000 := Nat.lt_of_le_of_lt hf.size (by omega)
  have hrow : (rowOf (s.val (keyL 5 [n]))).length ≠ 2 := fun e => by
    unfold rowOf at e
    cases hp : numsL (s.val (keyL 5 [n])).data.toList with
    | none => rw [hp] at e; cases e
    | some ns =>
      rw [hp] at e
      match ns, e with
      | [x, y], _ => exact hr x y hp
  have HC : Hid (Calls Tryz.prog 44 #[.int .i64 5, .slice (some ⟨w.heap.size, 0, none⟩) 1 1] (w.alloc (.cells #[.int .i64 n] 3)) fun e w1 => e = .returned (.string (keyL 5 [n])) ∧
      Calls Tryz.prog 78 #[.pointer (some ⟨b, 0, none⟩), .string (keyL 5 [n])] w1 fun e w2 => ∃ (a : Option Addr) (m c : Nat), e = .returned (.slice a m c) ∧ ((m : Int) == 2) = false ∧ Below w.heap.size w w2) := by
    refine (rkey_new1 5 (by decide) (by decide) n hn w).mono fun e w1 ⟨he, hb1⟩ => ⟨he, ?_⟩
    refine (rrowG_any w1 b (keyL 5 [n]) (s.val (keyL 5 [n])) _ (rget_any w1 b s L (keyL 5 [n]) (h.below hb1) (by unfold St.size at hz; omega)) (hf.val' _)).mono fun e w2 hR => ?_
    obtain ⟨v, he, ho, _, hb2⟩ := hR
    obtain ⟨a, c, rfl, _⟩ := ho.form
    exact ⟨a, _, c, he, by rw [beq_eq_false_iff_ne]; omega, bl_then hb1 hb2⟩
  clear h hf hr hrow
  generalize keyL 5 [n] = kk at *
  go_enter Tryz.func87, Tryz.ntmps87
  go_wp2_with fail
  refine Calls.mono HC.out ?_
  rintro e w1 ⟨rfl, hC⟩
  have HC1 := Lib.hid hC
  clear hC HC
  go_wp2_with fail
  refine Calls.mono HC1.out ?_
  rintro e w2 ⟨g, m, c, rfl, hm2, hb2⟩
  go_wp2_with fail
  go_ret3
  exact ⟨rfl, hb2⟩

set_option maxRecDepth 100000 in
set_option maxHeartbeats 2000000 in
theorem rknown_all (w : World) (b : Nat) (s : St) (L : List Nat) (f : Nat) (n : Int) (hn : n < 9223372036854775808) (h : RRep w b s L) (hf : s.Fit f) (hm : f < 10000000000) :
    Calls Tryz.prog 60 #[.pointer (some ⟨b, 0, none⟩), .int .i64 n] w (RetBool w (sKnown s n)) := by
  have HO : Hid (Calls Tryz.prog 87 #[.pointer (some ⟨b, 0, none⟩), .int .i64 n] w fun e w' => ∃ (t : Int) (on : Bool), e = .returned (.tuple #[.int .i64 t, .bool on, .bool (sKnown s n)]) ∧ Below w.heap.size w w') := by
    unfold sKnown
    cases hk : sInfo s n with
    | some p => exact (rinfo_any w b s L f n p.1 p.2 hn h hf hm (sInfo_some hk)).mono fun e w' ⟨he, hb⟩ => ⟨_, _, he, hb⟩
    | none =>
      refine (rinfo_no w b s L f n hn h hf hm fun x y hx => ?_).mono fun e w' ⟨he, hb⟩ => ⟨_, _, he, hb⟩
      unfold sInfo at hk
      rw [hx] at hk; cases hk
  generalize sKnown s n = kn at *
  clear h hf
  go_enter Tryz.func60, Tryz.ntmps60
  go_wp2_with fail
  refine HO.out.mono ?_
  rintro e w1 ⟨t, on, rfl, hb1⟩
  go_wp2_with fail
  go_ret
  exact ⟨rfl, hb1⟩
end Go.Proofs.YtnblhjndngpbnaaGreat
