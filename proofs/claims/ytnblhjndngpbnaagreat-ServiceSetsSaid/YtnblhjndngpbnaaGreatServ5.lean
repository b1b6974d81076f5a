/- What is proved here: the reference's New of a set of one strategy that is there. Its conditions: a service with fewer than 16 sets, sizes. -/
import Derived.Test.YtnblhjndngpbnaaGreatServ4
namespace Go.Proofs.YtnblhjndngpbnaaGreat
open Go.RowKit

/-- One set more, of strategy 1. -/
def sNew (s : St) (a : Int) : St := (s.setInt (keyL 22 [a]) ((sSets s a : Nat) + 1 : Int)).setInt (keyL 23 [a, (sSets s a : Int), 1]) 1

theorem step_cell {w w' : World} {L L' : List Nat} (h : Step w L w' L') {q i : Nat} {v : Value} (hq : q ∉ L) (hc : w.cell? ⟨q, i, none⟩ = some v) : w'.cell? ⟨q, i, none⟩ = some v := by
  have hlt := World.block_lt_of_cell? w _ hc
  have := h.fr.block q hlt hq
  rw [World.cell?_of_block (w := w) this]; exact hc

set_option maxRecDepth 100000 in
set_option maxHeartbeats 4000000 in
theorem rsnew_any (w : World) (b : Nat) (s : St) (L : List Nat) (f : Nat) (a : Int) (g c x y : Nat) (ha : a < 9223372036854775808) (h : RRep w b s L) (hf : s.Fit f) (hm : f < 1000000000)
    (hI : sIs s a = true) (hr : numsL (s.val (keyL 5 [(1 : Int)])).data.toList = some [x, y]) (h16 : sSets s a < 16) (hc : w.cell? ⟨g, 0, none⟩ = some (.int .i64 1)) (hg : g ∉ L) :
    Calls Tryz.prog 30 #[.pointer (some ⟨b, 0, none⟩), .int .i64 a, .slice (some ⟨g, 0, none⟩) 1 c] w (RetR w b L (.tuple #[.int .i64 (sSets s a), .int .i64 0]) (sNew s a)) := by
  have hz : s.size < 1000000000000 := Nat.lt_of_le_of_lt hf.size (by omega)
  have h1 := rsis_any w b s L f a ha h hf (by omega)
  rw [hI] at h1
  have HC : Hid (Calls Tryz.prog 14 #[.pointer (some ⟨b, 0, none⟩), .int .i64 a] w fun e w1 => e = .returned (.bool true) ∧
      Calls Tryz.prog 22 #[.slice (some ⟨g, 0, none⟩) 1 c] w1 fun e w2 => e = .returned (.bool true) ∧ w2.cell? ⟨g, 0, none⟩ = some (.int .i64 1) ∧
      Calls Tryz.prog 60 #[.pointer (some ⟨b, 0, none⟩), .int .i64 1] w2 fun e w3 => e = .returned (.bool true) ∧
      Calls Tryz.prog 18 #[.pointer (some ⟨b, 0, none⟩), .int .i64 a] w3 fun e w4 => e = .returned (.int .i64 (sSets s a)) ∧
      Calls Tryz.prog 44 #[.int .i64 22, .slice (some ⟨w4.heap.size, 0, none⟩) 1 1] (w4.alloc (.cells #[.int .i64 a] 3)) fun e w5 => e = .returned (.string (keyL 22 [a])) ∧
      Calls Tryz.prog 61 #[.pointer (some ⟨b, 0, none⟩), .string (keyL 22 [a])] w5 fun e w6 => e = .returned (.int .i64 ((sSets s a : Nat) + 1 : Int)) ∧ w6.cell? ⟨g, 0, none⟩ = some (.int .i64 1) ∧
      Calls Tryz.prog 45 #[.int .i64 a, .int .i64 (sSets s a), .int .i64 1] w6 fun e w7 => e = .returned (.string (keyL 23 [a, (sSets s a : Int), 1])) ∧
      Calls Tryz.prog 59 #[.pointer (some ⟨b, 0, none⟩), .string (keyL 23 [a, (sSets s a : Int), 1]), .int .i64 1] w7 fun e w8 => e = .returned (.tuple #[]) ∧ RetR w b L (.tuple #[.int .i64 (sSets s a), .int .i64 0]) (sNew s a) (.returned (.tuple #[.int .i64 (sSets s a), .int .i64 0])) w8) := by
    refine h1.mono fun e w1 ⟨he, b1⟩ => ⟨he, ?_⟩
    refine (rrise_one w1 g c).mono fun e w2 ⟨he, e2⟩ => ⟨he, by subst e2; exact bl_cell b1 hc, ?_⟩
    subst e2
    refine (rknown_any w1 b s L f 1 x y (by decide) (h.below b1) hf (by omega) hr).mono fun e w3 ⟨he, b3⟩ => ⟨he, ?_⟩
    have b13 := bl_then b1 b3
    refine (rssets_any w3 b s L f a ha (h.below b13) hf (by omega)).mono fun e w4 ⟨he, b4⟩ => ⟨he, ?_⟩
    have b14 := bl_then b13 b4
    refine (rkey_new1 22 (by decide) (by decide) a ha w4).mono fun e w5 ⟨he, b5⟩ => ⟨he, ?_⟩
    have b15 := bl_then b14 b5
    refine (rnext_any w5 b s L (keyL 22 [a]) (h.below b15) hz (hf.val' _) (show sSets s a < _ by omega)).mono fun e w6 hR => ⟨hR.1, ?_, ?_⟩
    · obtain ⟨_, L6, hS6, hT6⟩ := hR
      exact step_cell hT6 hg (bl_cell b15 hc)
    · obtain ⟨_, L6, hS6, hT6⟩ := RetR.of_below b15 hR
      refine (rsetKey_any w6 a (sSets s a) 1 ha (by omega) (by decide)).mono fun e w7 ⟨he, b7⟩ => ⟨he, ?_⟩
      refine (rsetInt_any w7 b _ L6 _ 1 (by decide) (hS6.below b7) (Nat.lt_of_le_of_lt (hf.setInt _ _).size (by omega))).mono fun e w8 hR8 => ⟨hR8.1, ?_⟩
      exact (RetR.step hT6 (RetR.of_below b7 hR8)).as _
  have hd16 : decide ((16 : Int) ≤ (sSets s a : Int)) = false := decide_eq_false (by omega)
  generalize RetR w b L (.tuple #[.int .i64 (sSets s a), .int .i64 0]) (sNew s a) = R at *
  have hn16 : ((sSets s a : Nat) + 1 : Int) - 1 = (sSets s a : Int) := by omega
  generalize sSets s a = n at *
  generalize keyL 23 [a, (n : Int), 1] = k2 at *
  generalize keyL 22 [a] = k1 at *
  clear h hf hz hI hr h1 hg hc
  go_enter Tryz.func30, Tryz.ntmps30
  go_wp2_with fail
  refine Calls.mono HC.out ?_
  rintro e w1 ⟨rfl, hC⟩
  have HC1 := Lib.hid hC
  clear hC HC
  go_wp2_with fail
  refine Calls.mono HC1.out ?_
  rintro e w2 ⟨rfl, q2, hC⟩
  have HC2 := Lib.hid hC
  clear hC HC1
  go_wp2_with fail
  refine wp_loop_rounds 2 ?_
  rw [rounds_succ]
  go_wp2_with fail
  refine Calls.mono HC2.out ?_
  rintro e w3 ⟨rfl, hC⟩
  have HC3 := Lib.hid hC
  clear hC HC2
  go_wp2_with fail
  rw [rounds_succ]
  go_wp2_with fail
  refine Calls.mono HC3.out ?_
  rintro e w4 ⟨rfl, hC⟩
  have HC4 := Lib.hid hC
  clear hC HC3
  go_wp2_with fail
  refine Calls.mono HC4.out ?_
  rintro e w5 ⟨rfl, hC⟩
  have HC5 := Lib.hid hC
  clear hC HC4
  go_wp2_with fail
  refine Calls.mono HC5.out ?_
  rintro e w6 ⟨rfl, q6, hC⟩
  have HC6 := Lib.hid hC
  clear hC HC5
  go_wp2_with fail
  refine wp_loop_rounds 2 ?_
  rw [rounds_succ]
  go_wp2_with fail
  refine Calls.mono HC6.out ?_
  rintro e w7 ⟨rfl, hC⟩
  have HC7 := Lib.hid hC
  clear hC HC6
  go_wp2_with fail
  refine Calls.mono HC7.out ?_
  rintro e w8 ⟨rfl, hR⟩
  go_wp2_with fail
  rw [rounds_succ]
  go_wp2_with fail
  exact hR
end Go.Proofs.YtnblhjndngpbnaaGreat
