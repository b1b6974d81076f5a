/- What is proved here: a strategy that is there is known: Info, service.known, and the reference's own. Their conditions: sizes; it is there. -/
import Derived.Test.YtnblhjndngpbnaaGreatServ2
namespace Go.Proofs.YtnblhjndngpbnaaGreat
open Go.RowKit

set_option maxRecDepth 100000 in
set_option maxHeartbeats 2000000 in
theorem vinfo_any (w : World) (b : Nat) (s : St) (L : List Nat) (f : Nat) (n : Int) (x y : Nat) (hn : n < 9223372036854775808) (h : SRep w b s L) (hf : s.Fit f) (hr : numsL (s.val (keyL 5 [(n : Int)])).data.toList = some [x, y]) :
    Calls Tryz.prog 11 #[.pointer (some ⟨b, 0, none⟩), .int .i64 n] w fun e w' => e = .returned (.tuple #[.int .i64 x, .bool ((y : Int) == 1), .bool true]) ∧ Below w.heap.size w w' := by
  have HO := Lib.hid (vof_any w b s L f n x y hn h hf hr)
  generalize ((y : Int) == 1) = on at *
  clear h hf hr
  go_enter Tryz.func11, Tryz.ntmps11
  go_wp2_with fail
  refine HO.out.mono ?_
  rintro e w1 ⟨rfl, hb1⟩
  have hb2 := bl_alloc hb1 (.cells #[.pointer (some ⟨b, 0, none⟩), .int .i64 n, .int .i64 x, .bool on] 79)
  have q2 : (w1.alloc (.cells #[.pointer (some ⟨b, 0, none⟩), .int .i64 n, .int .i64 x, .bool on] 79)).cell? ⟨w1.heap.size, 2, none⟩ = some (.int .i64 x) := by rw [cell_of_row _ _ _ _ _ _ (heap_alloc_new w1 _)]; rfl
  have q3 : (w1.alloc (.cells #[.pointer (some ⟨b, 0, none⟩), .int .i64 n, .int .i64 x, .bool on] 79)).cell? ⟨w1.heap.size, 3, none⟩ = some (.bool on) := by rw [cell_of_row _ _ _ _ _ _ (heap_alloc_new w1 _)]; rfl
  go_wp2_with fail
  go_region
  all_goals
    go_wp2_with fail
    go_ret3
    exact ⟨rfl, bl_drew hb2⟩

set_option maxRecDepth 100000 in
set_option maxHeartbeats 2000000 in
theorem known_any (w : World) (b : Nat) (s : St) (L : List Nat) (f : Nat) (n : Int) (x y : Nat) (hn : n < 9223372036854775808) (h : SRep w b s L) (hf : s.Fit f) (hr : numsL (s.val (keyL 5 [(n : Int)])).data.toList = some [x, y]) :
    Calls Tryz.prog 56 #[.pointer (some ⟨b, 0, none⟩), .int .i64 n] w fun e w' => e = .returned (.bool true) ∧ Below w.heap.size w w' := by
  have HO := Lib.hid (vinfo_any w b s L f n x y hn h hf hr)
  generalize ((y : Int) == 1) = on at *
  clear h hf hr
  go_enter Tryz.func56, Tryz.ntmps56
  go_wp2_with fail
  refine HO.out.mono ?_
  rintro e w1 ⟨rfl, hb1⟩
  go_wp2_with fail
  go_ret
  exact ⟨rfl, hb1⟩

set_option maxRecDepth 100000 in
set_option maxHeartbeats 2000000 in
theorem rinfo_any (w : World) (b : Nat) (s : St) (L : List Nat) (f : Nat) (n : Int) (x y : Nat) (hn : n < 9223372036854775808) (h : RRep w b s L) (hf : s.Fit f) (hm : f < 10000000000) (hr : numsL (s.val (keyL 5 [(n : Int)])).data.toList = some [x, y]) :
    Calls Tryz.prog 87 #[.pointer (some ⟨b, 0, none⟩), .int .i64 n] w fun e w' => e = .returned (.tuple #[.int .i64 x, .bool ((y : Int) == 1), .bool true]) ∧ Below w.heap.size w w' := by
  have hz : s.size < 1000000000000 := Nat.lt_of_le_of_lt hf.size (by omega)
  have hrow : rowOf (s.val (keyL 5 [(n : Int)])) = [x, y] := by unfold rowOf; rw [hr]; rfl
  have HC : Hid (Calls Tryz.prog 44 #[.int .i64 5, .slice (some ⟨w.heap.size, 0, none⟩) 1 1] (w.alloc (.cells #[.int .i64 n] 3)) fun e w1 => e = .returned (.string (keyL 5 [(n : Int)])) ∧
      Calls Tryz.prog 78 #[.pointer (some ⟨b, 0, none⟩), .string (keyL 5 [(n : Int)])] w1 fun e w2 => ∃ g c, e = .returned (.slice (some ⟨g, 0, none⟩) 2 c) ∧ w2.cell? ⟨g, 0, none⟩ = some (.int .i64 x) ∧ w2.cell? ⟨g, 1, none⟩ = some (.int .i64 y) ∧ Below w.heap.size w w2) := by
    refine (rkey_new1 5 (by decide) (by decide) n (by omega) w).mono fun e w1 ⟨he, hb1⟩ => ⟨he, ?_⟩
    refine (rrowG_any w1 b (keyL 5 [(n : Int)]) (s.val (keyL 5 [(n : Int)])) _ (rget_any w1 b s L (keyL 5 [(n : Int)]) (h.below hb1) (by unfold St.size at hz; omega)) (hf.val' _)).mono fun e w2 hR => ?_
    rw [hrow] at hR
    obtain ⟨v, he, ho, _, hb2⟩ := hR
    rcases ho.2 with ⟨_, h0⟩ | ⟨g, cap, cur, rfl, hg, _, _, hsz, hx⟩
    · cases h0
    · have hl : cur.toList.take 2 = [Value.int .i64 (x : Int), Value.int .i64 (y : Int)] := hx
      have e0 := congrArg (fun l => l[0]?) hl
      have e1 := congrArg (fun l => l[1]?) hl
      simp only [List.getElem?_take] at e0 e1
      refine ⟨g, cap, he, ?_, ?_, bl_then hb1 hb2⟩
      · rw [cell_of_row _ _ _ _ _ _ hg]; simpa using e0
      · rw [cell_of_row _ _ _ _ _ _ hg]; simpa using e1
  clear h hf hr hrow
  generalize keyL 5 [(n : Int)] = kk at *
  go_enter Tryz.func87, Tryz.ntmps87
  go_wp2_with fail
  refine Calls.mono HC.out ?_
  rintro e w1 ⟨rfl, hC⟩
  have HC1 := Lib.hid hC
  clear hC HC
  go_wp2_with fail
  refine Calls.mono HC1.out ?_
  rintro e w2 ⟨g, c, rfl, h0, h1, hb2⟩
  go_wp2_with fail
  go_region
  all_goals
    go_wp2_with fail
    go_ret3
    exact ⟨rfl, bl_drew hb2⟩

set_option maxRecDepth 100000 in
set_option maxHeartbeats 2000000 in
theorem rknown_any (w : World) (b : Nat) (s : St) (L : List Nat) (f : Nat) (n : Int) (x y : Nat) (hn : n < 9223372036854775808) (h : RRep w b s L) (hf : s.Fit f) (hm : f < 10000000000) (hr : numsL (s.val (keyL 5 [(n : Int)])).data.toList = some [x, y]) :
    Calls Tryz.prog 60 #[.pointer (some ⟨b, 0, none⟩), .int .i64 n] w fun e w' => e = .returned (.bool true) ∧ Below w.heap.size w w' := by
  have HO := Lib.hid (rinfo_any w b s L f n x y hn h hf hm hr)
  generalize ((y : Int) == 1) = on at *
  clear h hf hr
  go_enter Tryz.func60, Tryz.ntmps60
  go_wp2_with fail
  refine HO.out.mono ?_
  rintro e w1 ⟨rfl, hb1⟩
  go_wp2_with fail
  go_ret
  exact ⟨rfl, hb1⟩

/-- A set's key. -/
theorem setKey_any (w : World) (a n g : Int) (ha : a < 9223372036854775808) (hn : n < 9223372036854775808) (hg : g < 9223372036854775808) :
    Calls Tryz.prog 42 #[.agg #[.int .i64 a, .int .i64 n], .int .i64 g] w fun e w' => e = .returned (.string (keyL 23 [a, n, g])) ∧ Below w.heap.size w w' := by
  have hb : Below w.heap.size w (w.alloc (.cells #[.int .i64 a, .int .i64 n] 84)) := (Below.refl _ w).alloc (Nat.le_refl _) _
  have HK := key_new3 23 (by decide) (by decide) a n g ha hn hg (w.alloc (.cells #[.int .i64 a, .int .i64 n] 84))
  simp only [World.size_alloc] at HK
  have HK := Lib.hid HK
  generalize keyL 23 [a, n, g] = kk at *
  go_enter Tryz.func42, Tryz.ntmps42
  go_wp2_with fail
  refine Calls.mono HK.out ?_
  rintro e w1 ⟨rfl, hb1⟩
  go_wp2_with fail
  go_ret
  exact ⟨rfl, hb.trans (hb1.mono (Nat.le_succ _))⟩

theorem rsetKey_any (w : World) (a n g : Int) (ha : a < 9223372036854775808) (hn : n < 9223372036854775808) (hg : g < 9223372036854775808) :
    Calls Tryz.prog 45 #[.int .i64 a, .int .i64 n, .int .i64 g] w fun e w' => e = .returned (.string (keyL 23 [a, n, g])) ∧ Below w.heap.size w w' := by
  have HK := Lib.hid (rkey_new3 23 (by decide) (by decide) a n g ha hn hg w)
  generalize keyL 23 [a, n, g] = kk at *
  go_enter Tryz.func45, Tryz.ntmps45
  go_wp2_with fail
  refine Calls.mono HK.out ?_
  rintro e w1 ⟨rfl, hb1⟩
  go_wp2_with fail
  go_ret
  exact ⟨rfl, hb1⟩
end Go.Proofs.YtnblhjndngpbnaaGreat
