/- What is proved here: view.Ask of a ledger that no call made; the bytes of no store; ViewNone's walk. No condition. -/
import Derived.Test.YtifnlcpdpempcaaGreatNoStore
import Derived.Test.YtifnlcpdpempcaaGreatVarW
namespace Go.Proofs.YtifnlcpdpempcaaGreat
open Go.RowKit

/-- No made ledger: nil, or one with no store. -/
def NoLedger (w : World) (q : Option Addr) : Prop := q = none ∨ ∃ b, q = some ⟨b, 0, none⟩ ∧ w.cell? ⟨b, 10, none⟩ = some (.pointer none)

theorem NoLedger.below {w w' : World} {q : Option Addr} (h : NoLedger w q) (hb : Below w.heap.size w w') : NoLedger w' q := by
  rcases h with rfl | ⟨b, rfl, hc⟩
  · exact .inl rfl
  · exact .inr ⟨b, rfl, by rw [hb.cell (p := ⟨b, 10, none⟩) (World.block_lt_of_cell? w _ hc)]; exact hc⟩

set_option maxRecDepth 100000 in
set_option maxHeartbeats 2000000 in
theorem ledger_is (w : World) (q : Option Addr) (h : NoLedger w q) : Calls Tryz.prog 99 #[.pointer q] w fun e w' => e = .returned (.bool false) ∧ w = w' := by
  rcases h with rfl | ⟨b, rfl, hc⟩
  · go_enter Tryz.func99, Tryz.ntmps99
    go_wp2
    go_ret
    exact ⟨rfl, rfl⟩
  · have HM := Lib.hid (made_nil w)
    go_enter Tryz.func99, Tryz.ntmps99
    go_wp2_with (go_at_call 40; refine HM.out.mono ?_; rintro e w' ⟨rfl, rfl⟩)
    go_ret
    exact ⟨rfl, rfl⟩

set_option maxRecDepth 100000 in
set_option maxHeartbeats 2000000 in
theorem ledger_store (w : World) (q : Option Addr) (h : NoLedger w q) : Calls Tryz.prog 52 #[.pointer q] w fun e w' => e = .returned (.pointer none) ∧ w = w' := by
  have HM := Lib.hid (ledger_is w q h)
  clear h
  go_enter Tryz.func52, Tryz.ntmps52
  go_wp2_with (go_at_call 99; refine HM.out.mono ?_; rintro e w' ⟨rfl, rfl⟩)
  go_ret
  exact ⟨rfl, rfl⟩

set_option maxRecDepth 100000 in
set_option maxHeartbeats 2000000 in
theorem ask_not (w : World) (q : Option Addr) (k : Int) (a : Option Addr) (n c : Nat) (h : NoLedger w q) : Calls Tryz.prog 24 #[.pointer q, .agg #[.int .i64 k, .slice a n c]] w fun e w' => e = .returned (.tuple #[.slice none 0 0, .int .i64 1]) ∧ Below w.heap.size w w' := by
  have hb : Below w.heap.size w (w.alloc (.cells #[.int .i64 k, .slice a n c] 62)) := (Below.refl _ w).alloc (Nat.le_refl _) _
  have HS := Lib.hid (ledger_store _ q (h.below hb))
  have HM := Lib.hid (made_nil (w.alloc (.cells #[.int .i64 k, .slice a n c] 62)))
  clear h
  go_enter Tryz.func24, Tryz.ntmps24
  go_wp2_with (first | (go_at_call 52; refine HS.out.mono ?_; rintro e w' ⟨rfl, rfl⟩) | (go_at_call 40; refine HM.out.mono ?_; rintro e w' ⟨rfl, rfl⟩))
  refine bodyPost_ret (results_tmp2 rfl _ _ _) rfl ?_
  exact ⟨rfl, hb⟩

/-- Between two rounds. -/
abbrev ViewAt (w : World) (k : Int) (a : Option Addr) (n c : Nat) (wr : World) : Prop := Below w.heap.size w wr ∧ wr.cell? ⟨w.heap.size, 0, none⟩ = some (.int .i64 k) ∧ wr.cell? ⟨w.heap.size, 1, none⟩ = some (.slice a n c) ∧ NoLedger wr (some ⟨w.heap.size + 1, 0, none⟩)

theorem ViewAt.below {w wr w' : World} {k : Int} {a : Option Addr} {n c : Nat} (h : ViewAt w k a n c wr) (hb : Below wr.heap.size wr w') : ViewAt w k a n c w' :=
  ⟨h.1.trans (hb.mono h.1.size), by rw [hb.cell (p := ⟨w.heap.size, 0, none⟩) (World.block_lt_of_cell? wr _ h.2.1)]; exact h.2.1, by rw [hb.cell (p := ⟨w.heap.size, 1, none⟩) (World.block_lt_of_cell? wr _ h.2.2.1)]; exact h.2.2.1, h.2.2.2.below hb⟩

theorem lindex_none (a : Nat) (w : World) : (Instr.index 83 (.agg #[.pointer none, .pointer (some ⟨a, 0, none⟩)]) (.int .i64 0)).run Tryz.prog w = .ok (.pointer none) w := by kernel_rfl
theorem lindex_some (a : Nat) (w : World) : (Instr.index 83 (.agg #[.pointer none, .pointer (some ⟨a, 0, none⟩)]) (.int .i64 1)).run Tryz.prog w = .ok (.pointer (some ⟨a, 0, none⟩)) w := by kernel_rfl

set_option maxRecDepth 100000 in
set_option maxHeartbeats 2000000 in
theorem viewNone_walk (k : Int) (a : Option Addr) (n c : Nat) (w : World) : Calls Tryz.prog 6 #[.agg #[.int .i64 k, .slice a n c]] w fun e w' => e = .returned (.bool true) ∧ Below w.heap.size w w' := by
  have hbx : Below w.heap.size w (w.alloc (.cells #[.int .i64 k, .slice a n c] 62)) := (Below.refl _ w).alloc (Nat.le_refl _) _
  by_cases h20 : 20 < n
  · have hd : decide ((20 : Int) < (n : Int)) = true := decide_eq_true (by omega)
    have HL := Lib.hid (lives37 (w.alloc (.cells #[.int .i64 k, .slice a n c] 62)))
    go_enter Tryz.func6, Tryz.ntmps6
    go_wp2_with (go_at_call 23; refine HL.out.mono ?_; rintro e w5 ⟨rfl, hb5⟩)
    go_ret
    exact ⟨rfl, hbx.trans (hb5.mono hbx.size)⟩
  · have hd : decide ((20 : Int) < (n : Int)) = false := decide_eq_false (by omega)
    have hI0 := lindex_none
    have hI1 := lindex_some
    have HW0 : Hid (∀ (cs : Array Value), cs[10]? = some (.pointer none) → ViewAt w k a n c ((w.alloc (.cells #[.int .i64 k, .slice a n c] 62)).alloc (.cells cs 81))) := fun cs hcs => by
      refine ⟨hbx.alloc hbx.size _, ?_, ?_, .inr ⟨_, rfl, ?_⟩⟩
      · rw [((Below.refl _ (w.alloc (.cells #[.int .i64 k, .slice a n c] 62))).alloc (Nat.le_refl _) _).cell (p := ⟨w.heap.size, 0, none⟩) (by simp), cell_of_row _ _ _ _ _ _ (heap_alloc_new w _)]; rfl
      · rw [((Below.refl _ (w.alloc (.cells #[.int .i64 k, .slice a n c] 62))).alloc (Nat.le_refl _) _).cell (p := ⟨w.heap.size, 1, none⟩) (by simp), cell_of_row _ _ _ _ _ _ (heap_alloc_new w _)]; rfl
      · have := heap_alloc_new (w.alloc (.cells #[.int .i64 k, .slice a n c] 62)) (.cells cs 81)
        rw [World.size_alloc] at this
        rw [cell_of_row _ _ _ _ _ _ this]; exact hcs
    have HA : Hid (∀ wr q, NoLedger wr q → ViewAt w k a n c wr → Calls Tryz.prog 24 #[.pointer q, .agg #[.int .i64 k, .slice a n c]] wr fun e w' => e = .returned (.tuple #[.slice none 0 0, .int .i64 1]) ∧ ViewAt w k a n c w') := fun wr q hq hA => (ask_not wr q k a n c hq).mono fun e w' ⟨he, hb⟩ => ⟨he, hA.below hb⟩
    have HBY : Hid (∀ wr, ViewAt w k a n c wr → Calls Tryz.prog 25 #[.pointer none] wr fun e w2 => ∃ a c, e = .returned (.slice a 1 c) ∧ (convert 87 9 (.slice a 1 c)).run Tryz.prog w2 = .ok (.string ⟨#[0]⟩) w2 ∧
        Calls Tryz.prog 23 #[] w2 fun e w3 => e = .returned (.bool true) ∧ Below w.heap.size w w3) := fun wr hA => (bytes_none wr none (all_not wr none (.inl rfl))).mono fun e w2 ⟨a2, c2, he, ho, hb⟩ => ⟨a2, c2, he, run_conv_any ho, (lives37 w2).mono fun e w3 ⟨he, hb3⟩ => ⟨he, (hA.below hb).1.trans (hb3.mono (hA.below hb).1.size)⟩⟩
    go_enter Tryz.func6, Tryz.ntmps6
    go_wp2_with fail
    have ha0 := HW0.out #[.int .u32 0, .int .i32 0, .int .u32 0, .int .i64 0, .int .i64 0, .int .i64 0, .int .i64 0, .int .i64 0, .int .i64 0, .int .i64 0, .pointer none, .int .i64 0] rfl
    have HA0 := Lib.hid ha0
    clear ha0 HW0
    generalize (w.alloc (.cells #[.int .i64 k, .slice a n c] 62)).alloc (.cells #[.int .u32 0, .int .i32 0, .int .u32 0, .int .i64 0, .int .i64 0, .int .i64 0, .int .i64 0, .int .i64 0, .int .i64 0, .int .i64 0, .pointer none, .int .i64 0] 81) = w0 at *
    refine wp_loop_rounds 3 ?_
    rw [rounds_succ]
    obtain ⟨_, hk0, hs0, _⟩ := HA0.out
    go_wp2_with fail
    refine (HA.out w0 none (.inl rfl) HA0.out).mono ?_
    rintro e w1 ⟨rfl, hA⟩
    have HA1 := Lib.hid hA
    clear hA HA0 hk0 hs0
    obtain ⟨_, hk1, hs1, _⟩ := HA1.out
    go_wp2_with fail
    rw [rounds_succ]
    go_wp2_with fail
    refine (HA.out w1 _ HA1.out.2.2.2 HA1.out).mono ?_
    rintro e w2 ⟨rfl, hA⟩
    have HA2 := Lib.hid hA
    clear hA HA1 hk1 hs1
    go_wp2_with fail
    rw [rounds_succ]
    have HB := Lib.hid (HBY.out w2 HA2.out)
    clear HBY HA HA2
    go_wp2_with fail
    refine Calls.mono HB.out ?_
    rintro e w3 ⟨a3, c3, rfl, hcv, hL⟩
    have HL := Lib.hid hL
    have hb0 : ((⟨#[0]⟩ : ByteArray).toList == (⟨#[0]⟩ : ByteArray).toList) = true := by simp
    clear hL HB
    go_wp2_with (go_at_call 23; refine HL.out.mono ?_; rintro e w5 ⟨rfl, hb5⟩)
    go_ret
    exact ⟨rfl, hb5⟩
end Go.Proofs.YtifnlcpdpempcaaGreat
