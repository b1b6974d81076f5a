/- What is proved here: vault.New of token 1, and the reference's own: a strategy more. Their conditions: fewer than 32 strategies, sizes. -/
import Derived.Test.YtnblhjndngpbnaaGreatVault
namespace Go.Proofs.YtnblhjndngpbnaaGreat
open Go.RowKit

theorem RetSt.step {w w1 : World} {b : Nat} {L L1 : List Nat} {v : Value} {s' : St} {e : Ending} {w' : World} (hs : Step w L w1 L1) (h : RetSt w1 b L1 v s' e w') : RetSt w b L v s' e w' := by
  obtain ⟨he, L', h1, h2⟩ := h
  exact ⟨he, L', h1, hs.trans h2⟩
theorem RetR.step {w w1 : World} {b : Nat} {L L1 : List Nat} {v : Value} {s' : St} {e : Ending} {w' : World} (hs : Step w L w1 L1) (h : RetR w1 b L1 v s' e w') : RetR w b L v s' e w' := by
  obtain ⟨he, L', h1, h2⟩ := h
  exact ⟨he, L', h1, hs.trans h2⟩
theorem RetSt.as {w : World} {b : Nat} {L : List Nat} {v : Value} {s' : St} {e : Ending} {w' : World} (h : RetSt w b L v s' e w') (u : Value) : RetSt w b L u s' (.returned u) w' := ⟨rfl, h.2⟩
theorem RetR.as {w : World} {b : Nat} {L : List Nat} {v : Value} {s' : St} {e : Ending} {w' : World} (h : RetR w b L v s' e w') (u : Value) : RetR w b L u s' (.returned u) w' := ⟨rfl, h.2⟩

set_option maxRecDepth 100000 in
set_option maxHeartbeats 2000000 in
theorem vnew_any (w : World) (b : Nat) (s : St) (L : List Nat) (f : Nat) (h : SRep w b s L) (hf : s.Fit f) (hm : f < 10000000000) (h32 : s.int K5 < 32) :
    Calls Tryz.prog 25 #[.pointer (some ⟨b, 0, none⟩), .int .i64 1] w (RetSt w b L (.tuple #[.int .i64 ((s.int K5 : Nat) + 1 : Int), .int .i64 0]) (vNew s)) := by
  have hz : s.size < 1000000000000 := Nat.lt_of_le_of_lt hf.size (by omega)
  have HM := Lib.hid (made_at w b true h.cell0)
  have HG := Lib.hid (fun w => bgood_any 1 w)
  have HC : Hid (Calls Tryz.prog 50 #[.pointer (some ⟨b, 0, none⟩)] w fun e w1 => e = .returned (.int .i64 (s.int K5)) ∧
      Calls Tryz.prog 36 #[.int .i64 5, .slice none 0 0] w1 fun e w2 => e = .returned (.string K5) ∧
      Calls Tryz.prog 51 #[.pointer (some ⟨b, 0, none⟩), .string K5] w2 fun e w3 => e = .returned (.int .i64 ((s.int K5 : Nat) + 1 : Int)) ∧
      ∀ cs, Calls Tryz.prog 52 #[.agg #[.pointer (some ⟨b, 0, none⟩), .int .i64 ((s.int K5 : Nat) + 1 : Int), .int .i64 1, .bool true]] (w3.alloc (.cells cs 79)) fun e w4 => e = .returned (.tuple #[]) ∧ (∀ i v, cs[i]? = some v → w4.cell? ⟨w3.heap.size, i, none⟩ = some v) ∧ RetSt w b L (.tuple #[.int .i64 ((s.int K5 : Nat) + 1 : Int), .int .i64 0]) (vNew s) (.returned (.tuple #[.int .i64 ((s.int K5 : Nat) + 1 : Int), .int .i64 0])) w4) := by
    refine (vcount_any w b s L h (hf.val' _)).mono fun e w1 ⟨he, hb1⟩ => ⟨he, ?_⟩
    refine (key_new0 5 (by decide) (by decide) w1).mono fun e w2 ⟨he, hb2⟩ => ⟨he, ?_⟩
    have hb12 := bl_then hb1 hb2
    refine (next_any w2 b s L K5 (h.below hb12) hz (hf.val' _) (by omega)).mono fun e w3 hR => ⟨hR.1, fun cs => ?_⟩
    obtain ⟨_, L3, hS3, hT3⟩ := RetSt.of_below hb12 hR
    have hlt := hS3.lt
    refine (save_any (w3.alloc (.cells cs 79)) b _ L3 (s.int K5 + 1) (by omega) (hS3.alloc _) (Nat.lt_of_le_of_lt (hf.setInt _ _).size (by omega))).mono fun e w4 hR4 => ⟨hR4.1, fun i v hi => ?_, ?_⟩
    · obtain ⟨_, L4, hS4, hT4⟩ := hR4
      have := hT4.fr.block w3.heap.size (by simp) (fun hm => by have := hlt _ hm; omega)
      rw [heap_alloc_new] at this
      rw [cell_of_row _ _ _ _ _ _ this]; exact hi
    · exact (RetSt.step hT3 (RetSt.of_below ((Below.refl _ w3).alloc (Nat.le_refl _) _) hR4)).as _
  have hd32 : decide ((32 : Int) ≤ (s.int K5 : Int)) = false := decide_eq_false (by omega)
  have hB1 : isB 1 = true := by decide
  rw [hB1] at HG
  generalize RetSt w b L (.tuple #[.int .i64 ((s.int K5 : Nat) + 1 : Int), .int .i64 0]) (vNew s) = R at *
  generalize s.int K5 = n at *
  generalize K5 = kk at *
  clear h hf hz h32
  go_enter Tryz.func25, Tryz.ntmps25
  go_wp2_with fail
  refine HM.out.mono ?_
  rintro e w' ⟨rfl, rfl⟩
  go_wp2_with fail
  refine (HG.out _).mono ?_
  rintro e w' ⟨rfl, rfl⟩
  go_wp2_with fail
  refine Calls.mono HC.out ?_
  rintro e w1 ⟨rfl, hC⟩
  have HC1 := Lib.hid hC
  clear hC HC HM HG
  go_wp2_with fail
  refine Calls.mono HC1.out ?_
  rintro e w2 ⟨rfl, hC⟩
  have HC2 := Lib.hid hC
  clear hC HC1
  go_wp2_with fail
  refine Calls.mono HC2.out ?_
  rintro e w3 ⟨rfl, hC⟩
  have HC3 := Lib.hid hC
  clear hC HC2
  go_wp2_with fail
  refine Calls.mono (HC3.out _) ?_
  rintro e w4 ⟨rfl, hcs, hR⟩
  have hc1 := hcs 1 _ rfl
  clear hcs
  go_wp2_with fail
  exact hR

set_option maxRecDepth 100000 in
set_option maxHeartbeats 2000000 in
theorem rvnew_any (w : World) (b : Nat) (s : St) (L : List Nat) (f : Nat) (h : RRep w b s L) (hf : s.Fit f) (hm : f < 10000000000) (h32 : s.int K5 < 32) :
    Calls Tryz.prog 34 #[.pointer (some ⟨b, 0, none⟩), .int .i64 1] w (RetR w b L (.tuple #[.int .i64 ((s.int K5 : Nat) + 1 : Int), .int .i64 0]) (vNew s)) := by
  have hz : s.size < 1000000000000 := Nat.lt_of_le_of_lt hf.size (by omega)
  have HC : Hid (Calls Tryz.prog 63 #[.pointer (some ⟨b, 0, none⟩)] w fun e w1 => e = .returned (.int .i64 (s.int K5)) ∧
      Calls Tryz.prog 44 #[.int .i64 5, .slice none 0 0] w1 fun e w2 => e = .returned (.string K5) ∧
      Calls Tryz.prog 61 #[.pointer (some ⟨b, 0, none⟩), .string K5] w2 fun e w3 => e = .returned (.int .i64 ((s.int K5 : Nat) + 1 : Int)) ∧
      Calls Tryz.prog 44 #[.int .i64 5, .slice (some ⟨w3.heap.size, 0, none⟩) 1 1] (w3.alloc (.cells #[.int .i64 ((s.int K5 : Nat) + 1 : Int)] 3)) fun e w4 => e = .returned (.string (keyL 5 [((s.int K5 : Nat) + 1 : Int)])) ∧
      Calls Tryz.prog 64 #[.pointer (some ⟨b, 0, none⟩), .string (keyL 5 [((s.int K5 : Nat) + 1 : Int)]), .slice (some ⟨w4.heap.size, 0, none⟩) 2 2] (w4.alloc (.cells #[.int .i64 1, .int .i64 1] 3)) fun e w5 => e = .returned (.tuple #[]) ∧ RetR w b L (.tuple #[.int .i64 ((s.int K5 : Nat) + 1 : Int), .int .i64 0]) (vNew s) (.returned (.tuple #[.int .i64 ((s.int K5 : Nat) + 1 : Int), .int .i64 0])) w5) := by
    refine (rvcount_any w b s L h (hf.val' _) hz).mono fun e w1 ⟨he, hb1⟩ => ⟨he, ?_⟩
    refine (rkey_new0 5 (by decide) (by decide) w1).mono fun e w2 ⟨he, hb2⟩ => ⟨he, ?_⟩
    have hb12 := bl_then hb1 hb2
    refine (rnext_any w2 b s L K5 (h.below hb12) hz (hf.val' _) (by omega)).mono fun e w3 hR => ⟨hR.1, ?_⟩
    obtain ⟨_, L3, hS3, hT3⟩ := RetR.of_below hb12 hR
    refine (rkey_new1 5 (by decide) (by decide) _ (by omega) w3).mono fun e w4 ⟨he, hb4⟩ => ⟨he, ?_⟩
    have hb5 := bl_alloc hb4 (.cells #[.int .i64 1, .int .i64 1] 3)
    have hne : keyL 5 [((s.int K5 : Nat) + 1 : Int)] ≠ emptyB := fun e => by
      have := congrArg (fun b : ByteArray => b.data.toList) e
      rw [keyL_pos (by intro x hx; rw [List.mem_singleton.1 hx]; omega)] at this
      simp [keyBytes, emptyB] at this
    refine (rsetRow_any (w4.alloc (.cells #[.int .i64 1, .int .i64 1] 3)) b _ L3 _ _ [1, 1] (hS3.below hb5) (Nat.lt_of_le_of_lt (hf.setInt _ _).size (by omega)) hne (intsAt_new w4 [1, 1]) (by decide) (by decide) (by decide)).mono fun e w5 hR5 => ⟨hR5.1, ?_⟩
    exact (RetR.step hT3 (RetR.of_below hb5 hR5)).as _
  have hd32 : decide ((32 : Int) ≤ (s.int K5 : Int)) = false := decide_eq_false (by omega)
  generalize RetR w b L (.tuple #[.int .i64 ((s.int K5 : Nat) + 1 : Int), .int .i64 0]) (vNew s) = R at *
  generalize s.int K5 = n at *
  generalize keyL 5 [((n : Nat) + 1 : Int)] = k2 at *
  generalize K5 = kk at *
  clear h hf hz h32
  go_enter Tryz.func34, Tryz.ntmps34
  go_wp2_with fail
  refine Calls.mono HC.out ?_
  rintro e w1 ⟨rfl, hC⟩
  have HC1 := Lib.hid hC
  clear hC HC
  go_wp2_with fail
  refine Calls.mono HC1.out ?_
  rintro e w2 ⟨rfl, hC⟩
  have HC2 := Lib.hid hC
  clear hC HC1
  go_wp2_with fail
  refine Calls.mono HC2.out ?_
  rintro e w3 ⟨rfl, hC⟩
  have HC3 := Lib.hid hC
  clear hC HC2
  go_wp2_with fail
  refine Calls.mono HC3.out ?_
  rintro e w4 ⟨rfl, hC⟩
  have HC4 := Lib.hid hC
  clear hC HC3
  go_wp2_with fail
  refine Calls.mono HC4.out ?_
  rintro e w5 ⟨rfl, hR⟩
  go_wp2_with fail
  exact hR
end Go.Proofs.YtnblhjndngpbnaaGreat
