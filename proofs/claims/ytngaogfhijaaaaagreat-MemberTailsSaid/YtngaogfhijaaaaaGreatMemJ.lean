/- What is proved here: member.Join and Leave over a store, and the reference's. Their conditions: numbers below 2^63, sizes; no value lies at the empty key. -/
import Derived.Test.YtngaogfhijaaaaaGreatMemR
namespace Go.Proofs.YtngaogfhijaaaaaGreat
open Go.RowKit

/-- What Join and Leave make of a state. -/
def mJoin (s : St) (a n o b : Int) : Int × St := if sThere s a n = false then (8, s) else if rIs s o = false then (8, s) else if mIn s a n o then (9, s) else if mSlash s a n o b then (10, s) else (0, s.put (K24 a n o) (rowB [1, 0]))
def mBl (n : Int) : Bool := decide (0 ≤ n) && decide (n ≤ 1099511627776)
def mLeave (s : St) (a n o b t : Int) : Int × St := if mIn s a n o = false then (8, s) else if mBl b = false then (2, s) else if mBl t = false then (2, s) else (0, s.put (K24 a n o) (rowB [2, b + t]))

theorem rowB_short2 (x y : Int) : (rowB [x, y]).size ≤ 1000000 := by
  show (rowBy [x, y]).toArray.size ≤ _
  rw [List.size_toArray, rowBy_len]; simp
theorem mJoin_fit {s : St} {f : Nat} (h : s.Fit f) (a n o b : Int) : (mJoin s a n o b).2.Fit (f + 2) := by
  unfold mJoin
  repeat' split
  all_goals first | exact h.mono (by omega) | exact h.put _ (rowB_short2 _ _)
theorem mLeave_fit {s : St} {f : Nat} (h : s.Fit f) (a n o b t : Int) : (mLeave s a n o b t).2.Fit (f + 2) := by
  unfold mLeave
  repeat' split
  all_goals first | exact h.mono (by omega) | exact h.put _ (rowB_short2 _ _)

/-- Nothing lies at the empty key. -/
def NoE (s : St) : Prop := s.val emptyB = emptyB
theorem NoE.put {s : St} (h : NoE s) (hs : Sorted s.ents) {k v : ByteArray} (hk : k ≠ emptyB) : NoE (s.put k v) := by
  unfold NoE
  rw [val_put s hs k v emptyB hk, if_neg hk]; exact h
theorem keyL_some (t : Nat) {l : List Int} (h : ∀ x ∈ l, 0 ≤ x) : keyL t l ≠ emptyB := fun e => by
  have := congrArg ByteArray.size e
  rw [keyL_pos (by intro x hx; have := h x hx; omega)] at this
  have h1 : (⟨(keyBytes t l).toArray⟩ : ByteArray).size = 1 + 8 * l.length := by
    show (keyBytes t l).toArray.size = _
    rw [List.size_toArray, keyBytes_len]
  rw [h1] at this
  have h2 : emptyB.size = 0 := rfl
  omega
theorem K24_there {s : St} (h : NoE s) {a n o : Int} (ha : 0 ≤ a) (h1 : sThere s a n = true) (h2 : rIs s o = true) : K24 a n o ≠ emptyB := by
  have hn : 0 ≤ n := by
    unfold sThere at h1
    rw [Bool.and_eq_true, decide_eq_true_iff] at h1
    exact h1.1
  have ho : 0 ≤ o := by
    refine Decidable.byContradiction fun hno => ?_
    have he : K8 o = emptyB := keyL_neg (n := o) (List.mem_singleton.2 rfl) (by omega)
    unfold rIs St.int at h2
    rw [he, show s.val emptyB = emptyB from h, intOfV_empty] at h2
    cases h2
  refine keyL_some 24 fun x hx => ?_
  simp only [List.mem_cons, List.not_mem_nil, or_false] at hx
  rcases hx with rfl | rfl | rfl <;> assumption
theorem K24_in {s : St} (h : NoE s) {a n o : Int} (h1 : mIn s a n o = true) : K24 a n o ≠ emptyB := fun e => by
  unfold mIn mP at h1
  rw [e, show s.val emptyB = emptyB from h] at h1
  cases h1
theorem mBl_of {n : Int} (h : mBl n = true) : 0 ≤ n ∧ n ≤ 1099511627776 := by
  unfold mBl at h
  rw [Bool.and_eq_true, decide_eq_true_iff, decide_eq_true_iff] at h
  exact h
theorem rng10 : ∀ n ∈ [(1 : Int), 0], 0 ≤ n ∧ n < 9223372036854775808 := by decide
theorem rng2 {x : Int} (h0 : 0 ≤ x) (h1 : x ≤ 2199023255552) : ∀ n ∈ [(2 : Int), x], 0 ≤ n ∧ n < 9223372036854775808 := by
  intro n hn
  simp only [List.mem_cons, List.not_mem_nil, or_false] at hn
  rcases hn with rfl | rfl <;> omega
theorem two_ints (W : World) (x y : Int) : IntsAt (W.alloc (.cells #[.int .i64 x, .int .i64 y] 3)) (.slice (some ⟨W.heap.size, 0, none⟩) 2 2) [x, y] :=
  intsAt_cells (l := [x, y]) fun j z hj => by
    rw [cell_of_row _ _ _ _ _ _ (heap_alloc_new W _)]
    match j, hj with
    | 0, hj => cases hj; rfl
    | 1, hj => cases hj; rfl

set_option maxRecDepth 100000 in
set_option maxHeartbeats 1000000 in
theorem mblocks_any (w : World) (n : Int) : Calls Tryz.prog 49 #[.int .i64 n] w fun e w' => e = .returned (.bool (mBl n)) ∧ w = w' := by
  unfold mBl
  cases h0 : decide (0 ≤ n) with
  | true =>
    go_enter Tryz.func49, Tryz.ntmps49
    go_wp2_with fail
    go_ret
    exact ⟨rfl, rfl⟩
  | false =>
    go_enter Tryz.func49, Tryz.ntmps49
    go_wp2_with fail
    go_ret
    exact ⟨rfl, rfl⟩

set_option maxRecDepth 100000 in
set_option maxHeartbeats 2000000 in
theorem mJoin_any (w : World) (b : Nat) (s : St) (L : List Nat) (f : Nat) (a n o t : Int) (ha : a < 9223372036854775808) (hn : n < 9223372036854775808) (ho : o < 9223372036854775808) (h : SRep w b s L) (hf : s.Fit f) (hm : f < 10000000000) :
    Calls Tryz.prog 14 #[.pointer (some ⟨b, 0, none⟩), .int .i64 a, .int .i64 n, .int .i64 o, .int .i64 t] w (RetSt w b L (.int .i64 (mJoin s a n o t).1) (mJoin s a n o t).2) := by
  have hz : s.size < 1000000000000 := Nat.lt_of_le_of_lt hf.size (by omega)
  have HM := Lib.hid (fun (w1 : World) (hb1 : Below w.heap.size w w1) => made_at w1 b true (h.below hb1).cell0)
  have HT : Hid (∀ w1, Below w.heap.size w w1 → Calls Tryz.prog 43 #[.pointer (some ⟨b, 0, none⟩), .int .i64 a, .int .i64 n] w1 fun e w' => e = .returned (.bool (sThere s a n)) ∧ Below w.heap.size w w') := fun w1 h1 => (sthere_any w1 b s L f a n ha (h.below h1) hf (by omega)).mono fun e w' ⟨he, hb⟩ => ⟨he, bl_then h1 hb⟩
  have HI : Hid (∀ w1, Below w.heap.size w w1 → Calls Tryz.prog 46 #[.pointer (some ⟨b, 0, none⟩), .int .i64 o] w1 fun e w' => e = .returned (.bool (rIs s o)) ∧ Below w.heap.size w w') := fun w1 h1 => (isR_any w1 b s L f o ho (h.below h1) hf (by omega)).mono fun e w' ⟨he, hb⟩ => ⟨he, bl_then h1 hb⟩
  have HN : Hid (∀ w1, Below w.heap.size w w1 → Calls Tryz.prog 11 #[.pointer (some ⟨b, 0, none⟩), .int .i64 a, .int .i64 n, .int .i64 o] w1 fun e w' => e = .returned (.bool (mIn s a n o)) ∧ Below w.heap.size w w') := fun w1 h1 => (mIn_any w1 _ s a n o ha hn ho (ReadAt.made (h.below h1) hf (by omega))).mono fun e w' ⟨he, hb⟩ => ⟨he, bl_then h1 hb⟩
  have HL : Hid (∀ w1, Below w.heap.size w w1 → Calls Tryz.prog 12 #[.pointer (some ⟨b, 0, none⟩), .int .i64 a, .int .i64 n, .int .i64 o, .int .i64 t] w1 fun e w' => e = .returned (.bool (mSlash s a n o t)) ∧ Below w.heap.size w w') := fun w1 h1 => (mSlash_any w1 _ s a n o t ha hn ho (ReadAt.made (h.below h1) hf (by omega))).mono fun e w' ⟨he, hb⟩ => ⟨he, bl_then h1 hb⟩
  have HK : Hid (∀ w1, Below w.heap.size w w1 → Calls Tryz.prog 48 #[.int .i64 a, .int .i64 n, .int .i64 o] w1 fun e w' => e = .returned (.string (K24 a n o)) ∧ Below w.heap.size w w') := fun w1 h1 => (mKey_any w1 a n o ha hn ho).mono fun e w' ⟨he, hb⟩ => ⟨he, bl_then h1 hb⟩
  have HS : Hid (∀ w1, Below w.heap.size w w1 → sThere s a n = true → rIs s o = true → mJoin s a n o t = (0, s.put (K24 a n o) (rowB [1, 0])) → Calls Tryz.prog 47 #[.pointer (some ⟨b, 0, none⟩), .string (K24 a n o), .slice (some ⟨w1.heap.size, 0, none⟩) 2 2] (w1.alloc (.cells #[.int .i64 1, .int .i64 0] 3)) fun e w' => e = .returned (.tuple #[]) ∧ RetSt w b L (.int .i64 (mJoin s a n o t).1) (mJoin s a n o t).2 (.returned (.int .i64 0)) w') := fun w1 h1 hx hy hj => by
    rw [hj]
    refine (setRow_any (w1.alloc _) b s L (K24 a n o) _ [1, 0] (h.below (bl_alloc h1 _)) hz (two_ints w1 _ _) (by simp) (by simp) rng10).mono fun e w' hR => ⟨hR.1, ?_⟩
    exact (RetSt.of_below (bl_alloc h1 _) hR).as _
  have HE : Hid (∀ k w1, mJoin s a n o t = (k, s) → Below w.heap.size w w1 → RetSt w b L (.int .i64 (mJoin s a n o t).1) (mJoin s a n o t).2 (.returned (.int .i64 k)) w1) := fun k w1 e hb1 => by
    rw [e]; exact ⟨rfl, L, h.below hb1, ⟨Fr.of_below hb1 _, fun _ h => .inl h⟩⟩
  have HU : Hid (mJoin s a n o t = if sThere s a n = false then (8, s) else if rIs s o = false then (8, s) else if mIn s a n o then (9, s) else if mSlash s a n o t then (10, s) else (0, s.put (K24 a n o) (rowB [1, 0]))) := rfl
  have hb00 := Below.refl w.heap.size w
  generalize RetSt w b L (.int .i64 (mJoin s a n o t).1) (mJoin s a n o t).2 = R at *
  generalize sThere s a n = x at *
  generalize rIs s o = y at *
  generalize mIn s a n o = z at *
  generalize mSlash s a n o t = u at *
  generalize s.put (K24 a n o) (rowB [1, 0]) = s2 at *
  generalize K24 a n o = kk at *
  generalize mJoin s a n o t = jj at *
  clear h hf hz hm
  cases x with
  | false =>
    have HJ := Lib.hid (fun w1 => HE.out 8 w1 (by rw [HU.out]; rfl))
    clear HE HU HS
    go_enter Tryz.func14, Tryz.ntmps14
    go_wp2_with (first
      | (go_at_call 45; refine (HM.out _ (by assumption)).mono ?_; rintro e w' ⟨rfl, rfl⟩)
      | (go_at_call 43; refine Calls.mono (HT.out _ (by assumption)) ?_; rintro e w1 ⟨rfl, h1⟩)
      | (go_at_call 46; refine Calls.mono (HI.out _ (by assumption)) ?_; rintro e w2 ⟨rfl, h2⟩)
      | (go_at_call 11; refine Calls.mono (HN.out _ (by assumption)) ?_; rintro e w3 ⟨rfl, h3⟩)
      | (go_at_call 12; refine Calls.mono (HL.out _ (by assumption)) ?_; rintro e w4 ⟨rfl, h4⟩)
      | (go_at_call 48; refine Calls.mono (HK.out _ (by assumption)) ?_; rintro e w5 ⟨rfl, h5⟩)
      | (go_at_call 47; refine Calls.mono (HSS.out _ (by assumption)) ?_; rintro e w6 ⟨rfl, hR⟩))
    exact HJ.out _ h1
  | true =>
  cases y with
  | false =>
    have HJ := Lib.hid (fun w1 => HE.out 8 w1 (by rw [HU.out]; rfl))
    clear HE HU HS
    go_enter Tryz.func14, Tryz.ntmps14
    go_wp2_with (first
      | (go_at_call 45; refine (HM.out _ (by assumption)).mono ?_; rintro e w' ⟨rfl, rfl⟩)
      | (go_at_call 43; refine Calls.mono (HT.out _ (by assumption)) ?_; rintro e w1 ⟨rfl, h1⟩)
      | (go_at_call 46; refine Calls.mono (HI.out _ (by assumption)) ?_; rintro e w2 ⟨rfl, h2⟩)
      | (go_at_call 11; refine Calls.mono (HN.out _ (by assumption)) ?_; rintro e w3 ⟨rfl, h3⟩)
      | (go_at_call 12; refine Calls.mono (HL.out _ (by assumption)) ?_; rintro e w4 ⟨rfl, h4⟩)
      | (go_at_call 48; refine Calls.mono (HK.out _ (by assumption)) ?_; rintro e w5 ⟨rfl, h5⟩)
      | (go_at_call 47; refine Calls.mono (HSS.out _ (by assumption)) ?_; rintro e w6 ⟨rfl, hR⟩))
    exact HJ.out _ h2
  | true =>
  cases z with
  | true =>
    have HJ := Lib.hid (fun w1 => HE.out 9 w1 (by rw [HU.out]; rfl))
    clear HE HU HS
    go_enter Tryz.func14, Tryz.ntmps14
    go_wp2_with (first
      | (go_at_call 45; refine (HM.out _ (by assumption)).mono ?_; rintro e w' ⟨rfl, rfl⟩)
      | (go_at_call 43; refine Calls.mono (HT.out _ (by assumption)) ?_; rintro e w1 ⟨rfl, h1⟩)
      | (go_at_call 46; refine Calls.mono (HI.out _ (by assumption)) ?_; rintro e w2 ⟨rfl, h2⟩)
      | (go_at_call 11; refine Calls.mono (HN.out _ (by assumption)) ?_; rintro e w3 ⟨rfl, h3⟩)
      | (go_at_call 12; refine Calls.mono (HL.out _ (by assumption)) ?_; rintro e w4 ⟨rfl, h4⟩)
      | (go_at_call 48; refine Calls.mono (HK.out _ (by assumption)) ?_; rintro e w5 ⟨rfl, h5⟩)
      | (go_at_call 47; refine Calls.mono (HSS.out _ (by assumption)) ?_; rintro e w6 ⟨rfl, hR⟩))
    exact HJ.out _ h3
  | false =>
  cases u with
  | true =>
    have HJ := Lib.hid (fun w1 => HE.out 10 w1 (by rw [HU.out]; rfl))
    clear HE HU HS
    go_enter Tryz.func14, Tryz.ntmps14
    go_wp2_with (first
      | (go_at_call 45; refine (HM.out _ (by assumption)).mono ?_; rintro e w' ⟨rfl, rfl⟩)
      | (go_at_call 43; refine Calls.mono (HT.out _ (by assumption)) ?_; rintro e w1 ⟨rfl, h1⟩)
      | (go_at_call 46; refine Calls.mono (HI.out _ (by assumption)) ?_; rintro e w2 ⟨rfl, h2⟩)
      | (go_at_call 11; refine Calls.mono (HN.out _ (by assumption)) ?_; rintro e w3 ⟨rfl, h3⟩)
      | (go_at_call 12; refine Calls.mono (HL.out _ (by assumption)) ?_; rintro e w4 ⟨rfl, h4⟩)
      | (go_at_call 48; refine Calls.mono (HK.out _ (by assumption)) ?_; rintro e w5 ⟨rfl, h5⟩)
      | (go_at_call 47; refine Calls.mono (HSS.out _ (by assumption)) ?_; rintro e w6 ⟨rfl, hR⟩))
    exact HJ.out _ h4
  | false =>
    have HSS : Hid (∀ w1, Below w.heap.size w w1 → Calls Tryz.prog 47 #[.pointer (some ⟨b, 0, none⟩), .string kk, .slice (some ⟨w1.heap.size, 0, none⟩) 2 2] (w1.alloc (.cells #[.int .i64 1, .int .i64 0] 3)) fun e w' => e = .returned (.tuple #[]) ∧ R (.returned (.int .i64 0)) w') := fun w1 h1 => HS.out w1 h1 rfl rfl (by rw [HU.out]; rfl)
    clear HE HU HS
    go_enter Tryz.func14, Tryz.ntmps14
    go_wp2_with (first
      | (go_at_call 45; refine (HM.out _ (by assumption)).mono ?_; rintro e w' ⟨rfl, rfl⟩)
      | (go_at_call 43; refine Calls.mono (HT.out _ (by assumption)) ?_; rintro e w1 ⟨rfl, h1⟩)
      | (go_at_call 46; refine Calls.mono (HI.out _ (by assumption)) ?_; rintro e w2 ⟨rfl, h2⟩)
      | (go_at_call 11; refine Calls.mono (HN.out _ (by assumption)) ?_; rintro e w3 ⟨rfl, h3⟩)
      | (go_at_call 12; refine Calls.mono (HL.out _ (by assumption)) ?_; rintro e w4 ⟨rfl, h4⟩)
      | (go_at_call 48; refine Calls.mono (HK.out _ (by assumption)) ?_; rintro e w5 ⟨rfl, h5⟩)
      | (go_at_call 47; refine Calls.mono (HSS.out _ (by assumption)) ?_; rintro e w6 ⟨rfl, hR⟩))
    exact hR

set_option maxRecDepth 100000 in
set_option maxHeartbeats 2000000 in
theorem mLeave_any (w : World) (b : Nat) (s : St) (L : List Nat) (f : Nat) (a n o t u : Int) (ha : a < 9223372036854775808) (hn : n < 9223372036854775808) (ho : o < 9223372036854775808) (h : SRep w b s L) (hf : s.Fit f) (hm : f < 10000000000) :
    Calls Tryz.prog 15 #[.pointer (some ⟨b, 0, none⟩), .int .i64 a, .int .i64 n, .int .i64 o, .int .i64 t, .int .i64 u] w (RetSt w b L (.int .i64 (mLeave s a n o t u).1) (mLeave s a n o t u).2) := by
  have hz : s.size < 1000000000000 := Nat.lt_of_le_of_lt hf.size (by omega)
  have HM := Lib.hid (fun (w1 : World) (hb1 : Below w.heap.size w w1) => made_at w1 b true (h.below hb1).cell0)
  have HN : Hid (∀ w1, Below w.heap.size w w1 → Calls Tryz.prog 11 #[.pointer (some ⟨b, 0, none⟩), .int .i64 a, .int .i64 n, .int .i64 o] w1 fun e w' => e = .returned (.bool (mIn s a n o)) ∧ Below w.heap.size w w') := fun w1 h1 => (mIn_any w1 _ s a n o ha hn ho (ReadAt.made (h.below h1) hf (by omega))).mono fun e w' ⟨he, hb⟩ => ⟨he, bl_then h1 hb⟩
  have HBt := Lib.hid (fun w1 => mblocks_any w1 t)
  have HBu := Lib.hid (fun w1 => mblocks_any w1 u)
  have HK : Hid (∀ w1, Below w.heap.size w w1 → Calls Tryz.prog 48 #[.int .i64 a, .int .i64 n, .int .i64 o] w1 fun e w' => e = .returned (.string (K24 a n o)) ∧ Below w.heap.size w w') := fun w1 h1 => (mKey_any w1 a n o ha hn ho).mono fun e w' ⟨he, hb⟩ => ⟨he, bl_then h1 hb⟩
  have HS : Hid (∀ w1, Below w.heap.size w w1 → mIn s a n o = true → mBl t = true → mBl u = true → mLeave s a n o t u = (0, s.put (K24 a n o) (rowB [2, t + u])) → Calls Tryz.prog 47 #[.pointer (some ⟨b, 0, none⟩), .string (K24 a n o), .slice (some ⟨w1.heap.size, 0, none⟩) 2 2] (w1.alloc (.cells #[.int .i64 2, .int .i64 (t + u)] 3)) fun e w' => e = .returned (.tuple #[]) ∧ RetSt w b L (.int .i64 (mLeave s a n o t u).1) (mLeave s a n o t u).2 (.returned (.int .i64 0)) w') := fun w1 h1 hx ht hu hj => by
    rw [hj]
    have ht' := mBl_of ht
    have hu' := mBl_of hu
    refine (setRow_any (w1.alloc _) b s L (K24 a n o) _ [2, t + u] (h.below (bl_alloc h1 _)) hz (two_ints w1 _ _) (by simp) (by simp) (rng2 (by omega) (by omega))).mono fun e w' hR => ⟨hR.1, ?_⟩
    exact (RetSt.of_below (bl_alloc h1 _) hR).as _
  have HE : Hid (∀ k w1, mLeave s a n o t u = (k, s) → Below w.heap.size w w1 → RetSt w b L (.int .i64 (mLeave s a n o t u).1) (mLeave s a n o t u).2 (.returned (.int .i64 k)) w1) := fun k w1 e hb1 => by
    rw [e]; exact ⟨rfl, L, h.below hb1, ⟨Fr.of_below hb1 _, fun _ h => .inl h⟩⟩
  have HU : Hid (mLeave s a n o t u = if mIn s a n o = false then (8, s) else if mBl t = false then (2, s) else if mBl u = false then (2, s) else (0, s.put (K24 a n o) (rowB [2, t + u]))) := rfl
  have hb00 := Below.refl w.heap.size w
  generalize RetSt w b L (.int .i64 (mLeave s a n o t u).1) (mLeave s a n o t u).2 = R at *
  generalize mIn s a n o = z at *
  generalize s.put (K24 a n o) (rowB [2, t + u]) = s2 at *
  generalize K24 a n o = kk at *
  generalize mLeave s a n o t u = jj at *
  clear h hf hz hm
  cases z with
  | false =>
    have HJ := Lib.hid (fun w1 => HE.out 8 w1 (by rw [HU.out]; rfl))
    clear HE HU HS
    go_enter Tryz.func15, Tryz.ntmps15
    go_wp2_with (first
      | (go_at_call 45; refine (HM.out _ (by assumption)).mono ?_; rintro e w' ⟨rfl, rfl⟩)
      | (go_at_call 11; refine Calls.mono (HN.out _ (by assumption)) ?_; rintro e w3 ⟨rfl, h3⟩)
      | (go_at_call 49; first | (refine Calls.mono (HBt.out _) ?_; rintro e w' ⟨rfl, rfl⟩) | (refine Calls.mono (HBu.out _) ?_; rintro e w' ⟨rfl, rfl⟩))
      | (go_at_call 48; refine Calls.mono (HK.out _ (by assumption)) ?_; rintro e w5 ⟨rfl, h5⟩)
      | (go_at_call 47; refine Calls.mono (HSS.out _ (by assumption)) ?_; rintro e w6 ⟨rfl, hR⟩))
    exact HJ.out _ h3
  | true =>
  cases hbt : mBl t with
  | false =>
    rw [hbt] at HBt
    have HJ := Lib.hid (fun w1 => HE.out 2 w1 (by rw [HU.out, hbt]; rfl))
    clear HE HU HS
    go_enter Tryz.func15, Tryz.ntmps15
    go_wp2_with (first
      | (go_at_call 45; refine (HM.out _ (by assumption)).mono ?_; rintro e w' ⟨rfl, rfl⟩)
      | (go_at_call 11; refine Calls.mono (HN.out _ (by assumption)) ?_; rintro e w3 ⟨rfl, h3⟩)
      | (go_at_call 49; first | (refine Calls.mono (HBt.out _) ?_; rintro e w' ⟨rfl, rfl⟩) | (refine Calls.mono (HBu.out _) ?_; rintro e w' ⟨rfl, rfl⟩))
      | (go_at_call 48; refine Calls.mono (HK.out _ (by assumption)) ?_; rintro e w5 ⟨rfl, h5⟩)
      | (go_at_call 47; refine Calls.mono (HSS.out _ (by assumption)) ?_; rintro e w6 ⟨rfl, hR⟩))
    exact HJ.out _ h3
  | true =>
  cases hbu : mBl u with
  | false =>
    rw [hbt] at HBt
    rw [hbu] at HBu
    have HJ := Lib.hid (fun w1 => HE.out 2 w1 (by rw [HU.out, hbt, hbu]; rfl))
    clear HE HU HS
    go_enter Tryz.func15, Tryz.ntmps15
    go_wp2_with (first
      | (go_at_call 45; refine (HM.out _ (by assumption)).mono ?_; rintro e w' ⟨rfl, rfl⟩)
      | (go_at_call 11; refine Calls.mono (HN.out _ (by assumption)) ?_; rintro e w3 ⟨rfl, h3⟩)
      | (go_at_call 49; first | (refine Calls.mono (HBt.out _) ?_; rintro e w' ⟨rfl, rfl⟩) | (refine Calls.mono (HBu.out _) ?_; rintro e w' ⟨rfl, rfl⟩))
      | (go_at_call 48; refine Calls.mono (HK.out _ (by assumption)) ?_; rintro e w5 ⟨rfl, h5⟩)
      | (go_at_call 47; refine Calls.mono (HSS.out _ (by assumption)) ?_; rintro e w6 ⟨rfl, hR⟩))
    exact HJ.out _ h3
  | true =>
    have HSS : Hid (∀ w1, Below w.heap.size w w1 → Calls Tryz.prog 47 #[.pointer (some ⟨b, 0, none⟩), .string kk, .slice (some ⟨w1.heap.size, 0, none⟩) 2 2] (w1.alloc (.cells #[.int .i64 2, .int .i64 (t + u)] 3)) fun e w' => e = .returned (.tuple #[]) ∧ R (.returned (.int .i64 0)) w') := fun w1 h1 => HS.out w1 h1 rfl (by assumption) (by assumption) (by rw [HU.out, hbt, hbu]; rfl)
    have hw : IntKind.i64.wrap (t + u) = t + u := IntWalk.i64_in _ (by have := mBl_of hbt; have := mBl_of hbu; omega)
    rw [hbt] at HBt
    rw [hbu] at HBu
    clear HE HU HS
    go_enter Tryz.func15, Tryz.ntmps15
    go_wp2_with (first
      | (go_at_call 45; refine (HM.out _ (by assumption)).mono ?_; rintro e w' ⟨rfl, rfl⟩)
      | (go_at_call 11; refine Calls.mono (HN.out _ (by assumption)) ?_; rintro e w3 ⟨rfl, h3⟩)
      | (go_at_call 49; first | (refine Calls.mono (HBt.out _) ?_; rintro e w' ⟨rfl, rfl⟩) | (refine Calls.mono (HBu.out _) ?_; rintro e w' ⟨rfl, rfl⟩))
      | (go_at_call 48; refine Calls.mono (HK.out _ (by assumption)) ?_; rintro e w5 ⟨rfl, h5⟩)
      | (go_at_call 47; refine Calls.mono (HSS.out _ (by assumption)) ?_; rintro e w6 ⟨rfl, hR⟩))
    exact hR

set_option maxRecDepth 100000 in
set_option maxHeartbeats 2000000 in
theorem rmJoin_any (w : World) (b : Nat) (s : St) (L : List Nat) (f : Nat) (a n o t : Int) (ha0 : 0 ≤ a) (ha : a < 9223372036854775808) (hn : n < 9223372036854775808) (ho : o < 9223372036854775808) (h : RRep w b s L) (hf : s.Fit f) (hm : f < 10000000000) (he : NoE s) :
    Calls Tryz.prog 40 #[.pointer (some ⟨b, 0, none⟩), .int .i64 a, .int .i64 n, .int .i64 o, .int .i64 t] w (RetR w b L (.int .i64 (mJoin s a n o t).1) (mJoin s a n o t).2) := by
  have hz : s.size < 1000000000000 := Nat.lt_of_le_of_lt hf.size (by omega)
  have HT : Hid (∀ w1, Below w.heap.size w w1 → Calls Tryz.prog 52 #[.pointer (some ⟨b, 0, none⟩), .int .i64 a, .int .i64 n] w1 fun e w' => e = .returned (.bool (sThere s a n)) ∧ Below w.heap.size w w') := fun w1 h1 => (rsthere_any w1 b s L f a n ha (h.below h1) hf (by omega)).mono fun e w' ⟨he, hb⟩ => ⟨he, bl_then h1 hb⟩
  have HI : Hid (∀ w1, Below w.heap.size w w1 → Calls Tryz.prog 103 #[.pointer (some ⟨b, 0, none⟩), .int .i64 o] w1 fun e w' => e = .returned (.bool (rIs s o)) ∧ Below w.heap.size w w') := fun w1 h1 => (risR_any w1 b s L f o ho (h.below h1) hf (by omega)).mono fun e w' ⟨he, hb⟩ => ⟨he, bl_then h1 hb⟩
  have HN : Hid (∀ w1, Below w.heap.size w w1 → Calls Tryz.prog 16 #[.pointer (some ⟨b, 0, none⟩), .int .i64 a, .int .i64 n, .int .i64 o] w1 fun e w' => e = .returned (.bool (mIn s a n o)) ∧ Below w.heap.size w w') := fun w1 h1 => (rmIn_any w1 b s L f a n o ha hn ho (h.below h1) hf (by omega)).mono fun e w' ⟨he, hb⟩ => ⟨he, bl_then h1 hb⟩
  have HL : Hid (∀ w1, Below w.heap.size w w1 → Calls Tryz.prog 17 #[.pointer (some ⟨b, 0, none⟩), .int .i64 a, .int .i64 n, .int .i64 o, .int .i64 t] w1 fun e w' => e = .returned (.bool (mSlash s a n o t)) ∧ Below w.heap.size w w') := fun w1 h1 => (rmSlash_any w1 b s L f a n o t ha hn ho (h.below h1) hf (by omega)).mono fun e w' ⟨he, hb⟩ => ⟨he, bl_then h1 hb⟩
  have HK : Hid (∀ w1, Below w.heap.size w w1 → Calls Tryz.prog 51 #[.int .i64 a, .int .i64 n, .int .i64 o] w1 fun e w' => e = .returned (.string (K24 a n o)) ∧ Below w.heap.size w w') := fun w1 h1 => (rmKey_any w1 a n o ha hn ho).mono fun e w' ⟨he, hb⟩ => ⟨he, bl_then h1 hb⟩
  have HS : Hid (∀ w1, Below w.heap.size w w1 → sThere s a n = true → rIs s o = true → mJoin s a n o t = (0, s.put (K24 a n o) (rowB [1, 0])) → Calls Tryz.prog 85 #[.pointer (some ⟨b, 0, none⟩), .string (K24 a n o), .slice (some ⟨w1.heap.size, 0, none⟩) 2 2] (w1.alloc (.cells #[.int .i64 1, .int .i64 0] 3)) fun e w' => e = .returned (.tuple #[]) ∧ RetR w b L (.int .i64 (mJoin s a n o t).1) (mJoin s a n o t).2 (.returned (.int .i64 0)) w') := fun w1 h1 hx hy hj => by
    rw [hj]
    have hk := K24_there he ha0 hx hy
    refine (rsetRow_any (w1.alloc _) b s L (K24 a n o) _ [1, 0] (h.below (bl_alloc h1 _)) hz hk (two_ints w1 _ _) (by simp) (by simp) rng10).mono fun e w' hR => ⟨hR.1, ?_⟩
    exact (RetR.of_below (bl_alloc h1 _) hR).as _
  have HE : Hid (∀ k w1, mJoin s a n o t = (k, s) → Below w.heap.size w w1 → RetR w b L (.int .i64 (mJoin s a n o t).1) (mJoin s a n o t).2 (.returned (.int .i64 k)) w1) := fun k w1 e hb1 => by
    rw [e]; exact ⟨rfl, L, h.below hb1, ⟨Fr.of_below hb1 _, fun _ h => .inl h⟩⟩
  have HU : Hid (mJoin s a n o t = if sThere s a n = false then (8, s) else if rIs s o = false then (8, s) else if mIn s a n o then (9, s) else if mSlash s a n o t then (10, s) else (0, s.put (K24 a n o) (rowB [1, 0]))) := rfl
  have hb00 := Below.refl w.heap.size w
  generalize RetR w b L (.int .i64 (mJoin s a n o t).1) (mJoin s a n o t).2 = R at *
  generalize sThere s a n = x at *
  generalize rIs s o = y at *
  generalize mIn s a n o = z at *
  generalize mSlash s a n o t = u at *
  generalize s.put (K24 a n o) (rowB [1, 0]) = s2 at *
  generalize K24 a n o = kk at *
  generalize mJoin s a n o t = jj at *
  clear h hf hz hm
  cases x with
  | false =>
    have HJ := Lib.hid (fun w1 => HE.out 8 w1 (by rw [HU.out]; rfl))
    clear HE HU HS
    go_enter Tryz.func40, Tryz.ntmps40
    go_wp2_with (first
      | (go_at_call 52; refine Calls.mono (HT.out _ (by assumption)) ?_; rintro e w1 ⟨rfl, h1⟩)
      | (go_at_call 103; refine Calls.mono (HI.out _ (by assumption)) ?_; rintro e w2 ⟨rfl, h2⟩)
      | (go_at_call 16; refine Calls.mono (HN.out _ (by assumption)) ?_; rintro e w3 ⟨rfl, h3⟩)
      | (go_at_call 17; refine Calls.mono (HL.out _ (by assumption)) ?_; rintro e w4 ⟨rfl, h4⟩)
      | (go_at_call 51; refine Calls.mono (HK.out _ (by assumption)) ?_; rintro e w5 ⟨rfl, h5⟩)
      | (go_at_call 85; refine Calls.mono (HSS.out _ (by assumption)) ?_; rintro e w6 ⟨rfl, hR⟩))
    exact HJ.out _ h1
  | true =>
  cases y with
  | false =>
    have HJ := Lib.hid (fun w1 => HE.out 8 w1 (by rw [HU.out]; rfl))
    clear HE HU HS
    go_enter Tryz.func40, Tryz.ntmps40
    go_wp2_with (first
      | (go_at_call 52; refine Calls.mono (HT.out _ (by assumption)) ?_; rintro e w1 ⟨rfl, h1⟩)
      | (go_at_call 103; refine Calls.mono (HI.out _ (by assumption)) ?_; rintro e w2 ⟨rfl, h2⟩)
      | (go_at_call 16; refine Calls.mono (HN.out _ (by assumption)) ?_; rintro e w3 ⟨rfl, h3⟩)
      | (go_at_call 17; refine Calls.mono (HL.out _ (by assumption)) ?_; rintro e w4 ⟨rfl, h4⟩)
      | (go_at_call 51; refine Calls.mono (HK.out _ (by assumption)) ?_; rintro e w5 ⟨rfl, h5⟩)
      | (go_at_call 85; refine Calls.mono (HSS.out _ (by assumption)) ?_; rintro e w6 ⟨rfl, hR⟩))
    exact HJ.out _ h2
  | true =>
  cases z with
  | true =>
    have HJ := Lib.hid (fun w1 => HE.out 9 w1 (by rw [HU.out]; rfl))
    clear HE HU HS
    go_enter Tryz.func40, Tryz.ntmps40
    go_wp2_with (first
      | (go_at_call 52; refine Calls.mono (HT.out _ (by assumption)) ?_; rintro e w1 ⟨rfl, h1⟩)
      | (go_at_call 103; refine Calls.mono (HI.out _ (by assumption)) ?_; rintro e w2 ⟨rfl, h2⟩)
      | (go_at_call 16; refine Calls.mono (HN.out _ (by assumption)) ?_; rintro e w3 ⟨rfl, h3⟩)
      | (go_at_call 17; refine Calls.mono (HL.out _ (by assumption)) ?_; rintro e w4 ⟨rfl, h4⟩)
      | (go_at_call 51; refine Calls.mono (HK.out _ (by assumption)) ?_; rintro e w5 ⟨rfl, h5⟩)
      | (go_at_call 85; refine Calls.mono (HSS.out _ (by assumption)) ?_; rintro e w6 ⟨rfl, hR⟩))
    exact HJ.out _ h3
  | false =>
  cases u with
  | true =>
    have HJ := Lib.hid (fun w1 => HE.out 10 w1 (by rw [HU.out]; rfl))
    clear HE HU HS
    go_enter Tryz.func40, Tryz.ntmps40
    go_wp2_with (first
      | (go_at_call 52; refine Calls.mono (HT.out _ (by assumption)) ?_; rintro e w1 ⟨rfl, h1⟩)
      | (go_at_call 103; refine Calls.mono (HI.out _ (by assumption)) ?_; rintro e w2 ⟨rfl, h2⟩)
      | (go_at_call 16; refine Calls.mono (HN.out _ (by assumption)) ?_; rintro e w3 ⟨rfl, h3⟩)
      | (go_at_call 17; refine Calls.mono (HL.out _ (by assumption)) ?_; rintro e w4 ⟨rfl, h4⟩)
      | (go_at_call 51; refine Calls.mono (HK.out _ (by assumption)) ?_; rintro e w5 ⟨rfl, h5⟩)
      | (go_at_call 85; refine Calls.mono (HSS.out _ (by assumption)) ?_; rintro e w6 ⟨rfl, hR⟩))
    exact HJ.out _ h4
  | false =>
    have HSS : Hid (∀ w1, Below w.heap.size w w1 → Calls Tryz.prog 85 #[.pointer (some ⟨b, 0, none⟩), .string kk, .slice (some ⟨w1.heap.size, 0, none⟩) 2 2] (w1.alloc (.cells #[.int .i64 1, .int .i64 0] 3)) fun e w' => e = .returned (.tuple #[]) ∧ R (.returned (.int .i64 0)) w') := fun w1 h1 => HS.out w1 h1 rfl rfl (by rw [HU.out]; rfl)
    clear HE HU HS
    go_enter Tryz.func40, Tryz.ntmps40
    go_wp2_with (first
      | (go_at_call 52; refine Calls.mono (HT.out _ (by assumption)) ?_; rintro e w1 ⟨rfl, h1⟩)
      | (go_at_call 103; refine Calls.mono (HI.out _ (by assumption)) ?_; rintro e w2 ⟨rfl, h2⟩)
      | (go_at_call 16; refine Calls.mono (HN.out _ (by assumption)) ?_; rintro e w3 ⟨rfl, h3⟩)
      | (go_at_call 17; refine Calls.mono (HL.out _ (by assumption)) ?_; rintro e w4 ⟨rfl, h4⟩)
      | (go_at_call 51; refine Calls.mono (HK.out _ (by assumption)) ?_; rintro e w5 ⟨rfl, h5⟩)
      | (go_at_call 85; refine Calls.mono (HSS.out _ (by assumption)) ?_; rintro e w6 ⟨rfl, hR⟩))
    exact hR

set_option maxRecDepth 100000 in
set_option maxHeartbeats 2000000 in
theorem rmLeave_any (w : World) (b : Nat) (s : St) (L : List Nat) (f : Nat) (a n o t u : Int) (ha : a < 9223372036854775808) (hn : n < 9223372036854775808) (ho : o < 9223372036854775808) (h : RRep w b s L) (hf : s.Fit f) (hm : f < 10000000000) (he : NoE s) :
    Calls Tryz.prog 41 #[.pointer (some ⟨b, 0, none⟩), .int .i64 a, .int .i64 n, .int .i64 o, .int .i64 t, .int .i64 u] w (RetR w b L (.int .i64 (mLeave s a n o t u).1) (mLeave s a n o t u).2) := by
  have hz : s.size < 1000000000000 := Nat.lt_of_le_of_lt hf.size (by omega)
  have HN : Hid (∀ w1, Below w.heap.size w w1 → Calls Tryz.prog 16 #[.pointer (some ⟨b, 0, none⟩), .int .i64 a, .int .i64 n, .int .i64 o] w1 fun e w' => e = .returned (.bool (mIn s a n o)) ∧ Below w.heap.size w w') := fun w1 h1 => (rmIn_any w1 b s L f a n o ha hn ho (h.below h1) hf (by omega)).mono fun e w' ⟨he, hb⟩ => ⟨he, bl_then h1 hb⟩
  have HK : Hid (∀ w1, Below w.heap.size w w1 → Calls Tryz.prog 51 #[.int .i64 a, .int .i64 n, .int .i64 o] w1 fun e w' => e = .returned (.string (K24 a n o)) ∧ Below w.heap.size w w') := fun w1 h1 => (rmKey_any w1 a n o ha hn ho).mono fun e w' ⟨he, hb⟩ => ⟨he, bl_then h1 hb⟩
  have HS : Hid (∀ w1, Below w.heap.size w w1 → mIn s a n o = true → mBl t = true → mBl u = true → mLeave s a n o t u = (0, s.put (K24 a n o) (rowB [2, t + u])) → Calls Tryz.prog 85 #[.pointer (some ⟨b, 0, none⟩), .string (K24 a n o), .slice (some ⟨w1.heap.size, 0, none⟩) 2 2] (w1.alloc (.cells #[.int .i64 2, .int .i64 (t + u)] 3)) fun e w' => e = .returned (.tuple #[]) ∧ RetR w b L (.int .i64 (mLeave s a n o t u).1) (mLeave s a n o t u).2 (.returned (.int .i64 0)) w') := fun w1 h1 hx ht hu hj => by
    rw [hj]
    have ht' := mBl_of ht
    have hu' := mBl_of hu
    have hk := K24_in he hx
    refine (rsetRow_any (w1.alloc _) b s L (K24 a n o) _ [2, t + u] (h.below (bl_alloc h1 _)) hz hk (two_ints w1 _ _) (by simp) (by simp) (rng2 (by omega) (by omega))).mono fun e w' hR => ⟨hR.1, ?_⟩
    exact (RetR.of_below (bl_alloc h1 _) hR).as _
  have HE : Hid (∀ k w1, mLeave s a n o t u = (k, s) → Below w.heap.size w w1 → RetR w b L (.int .i64 (mLeave s a n o t u).1) (mLeave s a n o t u).2 (.returned (.int .i64 k)) w1) := fun k w1 e hb1 => by
    rw [e]; exact ⟨rfl, L, h.below hb1, ⟨Fr.of_below hb1 _, fun _ h => .inl h⟩⟩
  have HU : Hid (mLeave s a n o t u = if mIn s a n o = false then (8, s) else if mBl t = false then (2, s) else if mBl u = false then (2, s) else (0, s.put (K24 a n o) (rowB [2, t + u]))) := rfl
  have hb00 := Below.refl w.heap.size w
  generalize RetR w b L (.int .i64 (mLeave s a n o t u).1) (mLeave s a n o t u).2 = R at *
  generalize mIn s a n o = z at *
  generalize s.put (K24 a n o) (rowB [2, t + u]) = s2 at *
  generalize K24 a n o = kk at *
  generalize mLeave s a n o t u = jj at *
  clear h hf hz hm
  cases z with
  | false =>
    have HJ := Lib.hid (fun w1 => HE.out 8 w1 (by rw [HU.out]; rfl))
    clear HE HU HS
    go_enter Tryz.func41, Tryz.ntmps41
    go_wp2_with (first
      | (go_at_call 16; refine Calls.mono (HN.out _ (by assumption)) ?_; rintro e w3 ⟨rfl, h3⟩)
      | (go_at_call 51; refine Calls.mono (HK.out _ (by assumption)) ?_; rintro e w5 ⟨rfl, h5⟩)
      | (go_at_call 85; refine Calls.mono (HSS.out _ (by assumption)) ?_; rintro e w6 ⟨rfl, hR⟩))
    exact HJ.out _ h3
  | true =>
  cases hbt : mBl t with
  | false =>
    have HJ := Lib.hid (fun w1 => HE.out 2 w1 (by rw [HU.out, hbt]; rfl))
    clear HE HU HS
    by_cases t0 : t < 0
    · have dt0 : decide (t < 0) = true := decide_eq_true t0
      go_enter Tryz.func41, Tryz.ntmps41
      go_wp2_with (first
        | (go_at_call 16; refine Calls.mono (HN.out _ (by assumption)) ?_; rintro e w3 ⟨rfl, h3⟩)
        | (go_at_call 51; refine Calls.mono (HK.out _ (by assumption)) ?_; rintro e w5 ⟨rfl, h5⟩)
        | (go_at_call 85; refine Calls.mono (HSS.out _ (by assumption)) ?_; rintro e w6 ⟨rfl, hR⟩))
      exact HJ.out _ h3
    · have dt0 : decide (t < 0) = false := decide_eq_false t0
      have dt1 : decide (1099511627776 < t) = true := decide_eq_true (by unfold mBl at hbt; rw [decide_eq_true (by omega : (0 : Int) ≤ t), Bool.true_and, decide_eq_false_iff_not] at hbt; omega)
      go_enter Tryz.func41, Tryz.ntmps41
      go_wp2_with (first
        | (go_at_call 16; refine Calls.mono (HN.out _ (by assumption)) ?_; rintro e w3 ⟨rfl, h3⟩)
        | (go_at_call 51; refine Calls.mono (HK.out _ (by assumption)) ?_; rintro e w5 ⟨rfl, h5⟩)
        | (go_at_call 85; refine Calls.mono (HSS.out _ (by assumption)) ?_; rintro e w6 ⟨rfl, hR⟩))
      exact HJ.out _ h3
  | true =>
  cases hbu : mBl u with
  | false =>
    have HJ := Lib.hid (fun w1 => HE.out 2 w1 (by rw [HU.out, hbt, hbu]; rfl))
    clear HE HU HS
    have dt0 : decide (t < 0) = false := decide_eq_false (by have := mBl_of hbt; omega)
    have dt1 : decide (1099511627776 < t) = false := decide_eq_false (by have := mBl_of hbt; omega)
    by_cases u0 : u < 0
    · have du0 : decide (u < 0) = true := decide_eq_true u0
      go_enter Tryz.func41, Tryz.ntmps41
      go_wp2_with (first
        | (go_at_call 16; refine Calls.mono (HN.out _ (by assumption)) ?_; rintro e w3 ⟨rfl, h3⟩)
        | (go_at_call 51; refine Calls.mono (HK.out _ (by assumption)) ?_; rintro e w5 ⟨rfl, h5⟩)
        | (go_at_call 85; refine Calls.mono (HSS.out _ (by assumption)) ?_; rintro e w6 ⟨rfl, hR⟩))
      exact HJ.out _ h3
    · have du0 : decide (u < 0) = false := decide_eq_false u0
      have du1 : decide (1099511627776 < u) = true := decide_eq_true (by unfold mBl at hbu; rw [decide_eq_true (by omega : (0 : Int) ≤ u), Bool.true_and, decide_eq_false_iff_not] at hbu; omega)
      go_enter Tryz.func41, Tryz.ntmps41
      go_wp2_with (first
        | (go_at_call 16; refine Calls.mono (HN.out _ (by assumption)) ?_; rintro e w3 ⟨rfl, h3⟩)
        | (go_at_call 51; refine Calls.mono (HK.out _ (by assumption)) ?_; rintro e w5 ⟨rfl, h5⟩)
        | (go_at_call 85; refine Calls.mono (HSS.out _ (by assumption)) ?_; rintro e w6 ⟨rfl, hR⟩))
      exact HJ.out _ h3
  | true =>
    have HSS : Hid (∀ w1, Below w.heap.size w w1 → Calls Tryz.prog 85 #[.pointer (some ⟨b, 0, none⟩), .string kk, .slice (some ⟨w1.heap.size, 0, none⟩) 2 2] (w1.alloc (.cells #[.int .i64 2, .int .i64 (t + u)] 3)) fun e w' => e = .returned (.tuple #[]) ∧ R (.returned (.int .i64 0)) w') := fun w1 h1 => HS.out w1 h1 rfl (by assumption) (by assumption) (by rw [HU.out, hbt, hbu]; rfl)
    have hw : IntKind.i64.wrap (t + u) = t + u := IntWalk.i64_in _ (by have := mBl_of hbt; have := mBl_of hbu; omega)
    have dt0 : decide (t < 0) = false := decide_eq_false (by have := mBl_of hbt; omega)
    have dt1 : decide (1099511627776 < t) = false := decide_eq_false (by have := mBl_of hbt; omega)
    have du0 : decide (u < 0) = false := decide_eq_false (by have := mBl_of hbu; omega)
    have du1 : decide (1099511627776 < u) = false := decide_eq_false (by have := mBl_of hbu; omega)
    clear HE HU HS
    go_enter Tryz.func41, Tryz.ntmps41
    go_wp2_with (first
      | (go_at_call 16; refine Calls.mono (HN.out _ (by assumption)) ?_; rintro e w3 ⟨rfl, h3⟩)
      | (go_at_call 51; refine Calls.mono (HK.out _ (by assumption)) ?_; rintro e w5 ⟨rfl, h5⟩)
      | (go_at_call 85; refine Calls.mono (HSS.out _ (by assumption)) ?_; rintro e w6 ⟨rfl, hR⟩))
    exact hR

end Go.Proofs.YtngaogfhijaaaaaGreat
