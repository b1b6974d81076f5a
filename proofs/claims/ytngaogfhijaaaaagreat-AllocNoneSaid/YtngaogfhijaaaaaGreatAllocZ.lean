/- What is proved here: AllocNone's walk. Its condition: ints below 2^63. -/
import Derived.Test.YtngaogfhijaaaaaGreatAllocLv
import Derived.Test.YtngaogfhijaaaaaGreatAllocS
namespace Go.Proofs.YtngaogfhijaaaaaGreat
open Go.RowKit

abbrev actL (kd : Int) (x : I4) (tt mx : W4) (bk dl tl : Int) (sl : Bool) (fv : W4) : Array Value := #[.int .i64 kd, .int .i64 x.1, .int .i64 x.2.1, .int .i64 x.2.2.1, .int .i64 x.2.2.2, .int .u64 tt.1, .int .u64 tt.2.1, .int .u64 tt.2.2.1, .int .u64 tt.2.2.2, .int .u64 mx.1, .int .u64 mx.2.1, .int .u64 mx.2.2.1, .int .u64 mx.2.2.2, .int .i64 bk, .int .i64 dl, .int .i64 tl, .bool sl, .int .u64 fv.1, .int .u64 fv.2.1, .int .u64 fv.2.2.1, .int .u64 fv.2.2.2]
/-- The act's box, where it is read. -/
abbrev ActC (g : Nat) (kd : Int) (x : I4) (tt mx : W4) (bk dl tl : Int) (sl : Bool) (w' : World) : Prop := w'.cell? ⟨g, 0, none⟩ = some (.int .i64 kd) ∧ w'.cell? ⟨g, 1, none⟩ = some (.int .i64 x.1) ∧ w'.cell? ⟨g, 2, none⟩ = some (.int .i64 x.2.1) ∧ w'.cell? ⟨g, 3, none⟩ = some (.int .i64 x.2.2.1) ∧ w'.cell? ⟨g, 4, none⟩ = some (.int .i64 x.2.2.2) ∧ w'.cell? ⟨g, 5, none⟩ = some (.int .u64 tt.1) ∧ w'.cell? ⟨g, 6, none⟩ = some (.int .u64 tt.2.1) ∧ w'.cell? ⟨g, 7, none⟩ = some (.int .u64 tt.2.2.1) ∧ w'.cell? ⟨g, 8, none⟩ = some (.int .u64 tt.2.2.2) ∧ w'.cell? ⟨g, 9, none⟩ = some (.int .u64 mx.1) ∧ w'.cell? ⟨g, 10, none⟩ = some (.int .u64 mx.2.1) ∧ w'.cell? ⟨g, 11, none⟩ = some (.int .u64 mx.2.2.1) ∧ w'.cell? ⟨g, 12, none⟩ = some (.int .u64 mx.2.2.2) ∧ w'.cell? ⟨g, 13, none⟩ = some (.int .i64 bk) ∧ w'.cell? ⟨g, 14, none⟩ = some (.int .i64 dl) ∧ w'.cell? ⟨g, 15, none⟩ = some (.int .i64 tl) ∧ w'.cell? ⟨g, 16, none⟩ = some (.bool sl)
/-- Between two rounds: nothing that was there has turned; no store was made; the act lies in its box. -/
structure ANoneAt (w : World) (kd : Int) (x : I4) (tt mx : W4) (bk dl tl : Int) (sl : Bool) (fv : W4) (q0 : Option Addr) (wr : World) : Prop where
  hb : Below w.heap.size w wr
  no : NoStore wr q0
  box : wr.heap[w.heap.size]? = some (.cells (actL kd x tt mx bk dl tl sl fv) 69 (0, 0))
theorem ANoneAt.below {w : World} {kd : Int} {x : I4} {tt mx : W4} {bk dl tl : Int} {sl : Bool} {fv : W4} {q0 : Option Addr} {wr w' : World} (h : ANoneAt w kd x tt mx bk dl tl sl fv q0 wr) (hb : Below wr.heap.size wr w') : ANoneAt w kd x tt mx bk dl tl sl fv q0 w' :=
  ⟨bl_then h.hb hb, h.no.below hb, (hb.block _ (Array.getElem?_eq_some_iff.1 h.box).1).trans h.box⟩
theorem ANoneAt.out {w : World} {kd : Int} {x : I4} {tt mx : W4} {bk dl tl : Int} {sl : Bool} {fv : W4} {q0 : Option Addr} {wr : World} (h : ANoneAt w kd x tt mx bk dl tl sl fv q0 wr) : ActC w.heap.size kd x tt mx bk dl tl sl wr :=
  ⟨by rw [cell_of_row _ _ _ _ _ _ h.box]; rfl, by rw [cell_of_row _ _ _ _ _ _ h.box]; rfl, by rw [cell_of_row _ _ _ _ _ _ h.box]; rfl, by rw [cell_of_row _ _ _ _ _ _ h.box]; rfl, by rw [cell_of_row _ _ _ _ _ _ h.box]; rfl, by rw [cell_of_row _ _ _ _ _ _ h.box]; rfl, by rw [cell_of_row _ _ _ _ _ _ h.box]; rfl, by rw [cell_of_row _ _ _ _ _ _ h.box]; rfl, by rw [cell_of_row _ _ _ _ _ _ h.box]; rfl, by rw [cell_of_row _ _ _ _ _ _ h.box]; rfl, by rw [cell_of_row _ _ _ _ _ _ h.box]; rfl, by rw [cell_of_row _ _ _ _ _ _ h.box]; rfl, by rw [cell_of_row _ _ _ _ _ _ h.box]; rfl, by rw [cell_of_row _ _ _ _ _ _ h.box]; rfl, by rw [cell_of_row _ _ _ _ _ _ h.box]; rfl, by rw [cell_of_row _ _ _ _ _ _ h.box]; rfl, by rw [cell_of_row _ _ _ _ _ _ h.box]; rfl⟩

theorem pend_not (x : I4) : pend ⟨[], []⟩ x = (0, (0, 0, 0, 0), 0) := by
  unfold pend
  rw [show rowOf ((⟨[], []⟩ : St).val (aKey 30 x)) = [] from rowOf_empty]; rfl
theorem amt_not (k : ByteArray) : toAmt ((⟨[], []⟩ : St).val k) = (0, 0, 0, 0) := by
  show toAmt emptyB = _
  unfold toAmt
  rw [if_neg (by decide)]

theorem index_none29 (a : Nat) (w : World) : (Instr.index 46 (.agg #[.pointer none, .pointer (some ⟨a, 0, none⟩)]) (.int .i64 0)).run Tryz.prog w = .ok (.pointer none) w := by kernel_rfl
theorem index_some29 (a : Nat) (w : World) : (Instr.index 46 (.agg #[.pointer none, .pointer (some ⟨a, 0, none⟩)]) (.int .i64 1)).run Tryz.prog w = .ok (.pointer (some ⟨a, 0, none⟩)) w := by kernel_rfl

/-- One round: the seven calls. -/
def ANoneRound (w : World) (kd : Int) (x : I4) (tt mx : W4) (bk dl tl : Int) (sl : Bool) (fv : W4) (q0 q : Option Addr) (wr : World) : Prop :=
  Calls Tryz.prog 23 #[.pointer q, .agg #[.int .i64 x.1, .int .i64 x.2.1, .int .i64 x.2.2.1, .int .i64 x.2.2.2], .agg #[.int .u64 tt.1, .int .u64 tt.2.1, .int .u64 tt.2.2.1, .int .u64 tt.2.2.2, .int .u64 mx.1, .int .u64 mx.2.1, .int .u64 mx.2.2.1, .int .u64 mx.2.2.2, .int .i64 bk, .int .i64 dl, .int .i64 tl, .bool sl]] wr fun e w1 => e = .returned (.tuple #[.int .i64 0, .int .i64 1]) ∧ ANoneAt w kd x tt mx bk dl tl sl fv q0 w1 ∧
  Calls Tryz.prog 24 #[.pointer q, .agg #[.int .i64 x.1, .int .i64 x.2.1, .int .i64 x.2.2.1, .int .i64 x.2.2.2]] w1 fun e w2 => e = .returned (.tuple #[.int .i64 0, .agg #[.int .u64 0, .int .u64 0, .int .u64 0, .int .u64 0], .int .i64 0]) ∧ ANoneAt w kd x tt mx bk dl tl sl fv q0 (w2.alloc (.cells #[.int .u64 0, .int .u64 0, .int .u64 0, .int .u64 0] 65)) ∧
  Calls Tryz.prog 25 #[.pointer q, .agg #[.int .i64 x.1, .int .i64 x.2.1, .int .i64 x.2.2.1, .int .i64 x.2.2.2]] (w2.alloc (.cells #[.int .u64 0, .int .u64 0, .int .u64 0, .int .u64 0] 65)) fun e w3 => e = .returned (.bool false) ∧ ANoneAt w kd x tt mx bk dl tl sl fv q0 w3 ∧
  Calls Tryz.prog 26 #[.pointer q, .agg #[.int .i64 x.1, .int .i64 x.2.1, .int .i64 x.2.2.1, .int .i64 x.2.2.2]] w3 fun e w4 => e = .returned (.agg #[.int .u64 0, .int .u64 0, .int .u64 0, .int .u64 0]) ∧ ANoneAt w kd x tt mx bk dl tl sl fv q0 w4 ∧
  Calls Tryz.prog 27 #[.pointer q, .int .i64 x.1, .int .i64 x.2.1] w4 fun e w5 => e = .returned (.agg #[.int .u64 0, .int .u64 0, .int .u64 0, .int .u64 0]) ∧ ANoneAt w kd x tt mx bk dl tl sl fv q0 w5 ∧
  Calls Tryz.prog 28 #[.pointer q, .int .i64 x.1, .int .i64 x.2.1] w5 fun e w6 => e = .returned (.agg #[.int .u64 0, .int .u64 0, .int .u64 0, .int .u64 0]) ∧ ANoneAt w kd x tt mx bk dl tl sl fv q0 w6 ∧
  Calls Tryz.prog 29 #[.pointer q, .int .i64 x.1, .int .i64 x.2.1] w6 fun e w7 => e = .returned (.int .i64 0) ∧ ANoneAt w kd x tt mx bk dl tl sl fv q0 w7

theorem anone_round {w wr : World} {kd : Int} {x : I4} {tt mx : W4} {bk dl tl : Int} {sl : Bool} {fv : W4} {q0 q : Option Addr} (hx : x.Ok) (h : ANoneAt w kd x tt mx bk dl tl sl fv q0 wr) (hq : NoStore wr q) : ANoneRound w kd x tt mx bk dl tl sl fv q0 q wr := by
  have h1 : x.1 < 9223372036854775808 := hx _ (by simp)
  have h2 : x.2.1 < 9223372036854775808 := hx _ (by simp)
  refine (modify_not wr q x _ hq).mono fun e w1 ⟨he, b1⟩ => ⟨he, h.below b1, ?_⟩
  have H1 := h.below b1
  have q1 := hq.below b1
  refine (pending_any w1 q ⟨[], []⟩ x hx (ReadAt.not q1)).mono fun e w2 ⟨he, b2⟩ => ⟨by rw [he, pend_not]; rfl, (H1.below b2).below (bl_alloc (Below.refl _ w2) _), ?_⟩
  have bA := bl_alloc (Below.refl _ w2) (.cells #[.int .u64 0, .int .u64 0, .int .u64 0, .int .u64 0] 65)
  have H2 := (H1.below b2).below bA
  have q2 := (q1.below b2).below bA
  refine (mature_no _ q ⟨[], []⟩ x hx (ReadAt.not q2) (by rw [pend_not])).mono fun e w3 ⟨he, b3⟩ => ⟨he, H2.below b3, ?_⟩
  have H3 := H2.below b3
  have q3 := q2.below b3
  refine (current_any w3 q ⟨[], []⟩ x hx (ReadAt.not q3)).mono fun e w4 ⟨he, b4⟩ => ⟨by rw [he]; unfold cur; rw [amt_not]; rfl, H3.below b4, ?_⟩
  have H4 := H3.below b4
  have q4 := q3.below b4
  refine (encumbered_any w4 q ⟨[], []⟩ _ _ h1 h2 (ReadAt.not q4)).mono fun e w5 ⟨he, b5⟩ => ⟨by rw [he, amt_not]; rfl, H4.below b5, ?_⟩
  have H5 := H4.below b5
  have q5 := q4.below b5
  refine (sum_not w5 q _ _ h1 h2 q5).mono fun e w6 ⟨he, b6⟩ => ⟨he, H5.below b6, ?_⟩
  have H6 := H5.below b6
  have q6 := q5.below b6
  exact (waits_not w6 q _ _ h1 h2 q6).mono fun e w7 ⟨he, b7⟩ => ⟨he, H6.below b7⟩

set_option maxRecDepth 100000 in
set_option maxHeartbeats 4000000 in
theorem none29_walk (kd : Int) (x : I4) (tt mx : W4) (bk dl tl : Int) (sl : Bool) (fv : W4) (hx : x.Ok) (w : World) : Calls Tryz.prog 6 #[.agg (actL kd x tt mx bk dl tl sl fv)] w fun e w' => e = .returned (.bool true) ∧ Below w.heap.size w w' := by
  have HW0 : Hid (∀ a b c, ANoneAt w kd x tt mx bk dl tl sl fv (some ⟨w.heap.size + 1, 0, none⟩) ((w.alloc (.cells #[.int .i64 kd, .int .i64 x.1, .int .i64 x.2.1, .int .i64 x.2.2.1, .int .i64 x.2.2.2, .int .u64 tt.1, .int .u64 tt.2.1, .int .u64 tt.2.2.1, .int .u64 tt.2.2.2, .int .u64 mx.1, .int .u64 mx.2.1, .int .u64 mx.2.2.1, .int .u64 mx.2.2.2, .int .i64 bk, .int .i64 dl, .int .i64 tl, .bool sl, .int .u64 fv.1, .int .u64 fv.2.1, .int .u64 fv.2.2.1, .int .u64 fv.2.2.2] 69)).alloc (.cells #[.bool false, a, b, c] 45))) := fun a b c => by
    refine ⟨bl_alloc (bl_alloc (Below.refl _ w) _) _, .inr ⟨_, rfl, by simp, ?_⟩, ?_⟩
    · have := heap_alloc_new (w.alloc (.cells #[.int .i64 kd, .int .i64 x.1, .int .i64 x.2.1, .int .i64 x.2.2.1, .int .i64 x.2.2.2, .int .u64 tt.1, .int .u64 tt.2.1, .int .u64 tt.2.2.1, .int .u64 tt.2.2.2, .int .u64 mx.1, .int .u64 mx.2.1, .int .u64 mx.2.2.1, .int .u64 mx.2.2.2, .int .i64 bk, .int .i64 dl, .int .i64 tl, .bool sl, .int .u64 fv.1, .int .u64 fv.2.1, .int .u64 fv.2.2.1, .int .u64 fv.2.2.2] 69)) (.cells #[.bool false, a, b, c] 45)
      rw [World.size_alloc] at this
      rw [cell_of_row _ _ _ _ _ _ this]; rfl
    · rw [heap_alloc_old _ _ (by simp)]; exact heap_alloc_new w _
  have HR : Hid (∀ wr q, ANoneAt w kd x tt mx bk dl tl sl fv (some ⟨w.heap.size + 1, 0, none⟩) wr → NoStore wr q → ANoneRound w kd x tt mx bk dl tl sl fv (some ⟨w.heap.size + 1, 0, none⟩) q wr) := fun wr q h hq => anone_round hx h hq
  have HQ : Hid (∀ (k : Nat) wr, k < 2 → ANoneAt w kd x tt mx bk dl tl sl fv (some ⟨w.heap.size + 1, 0, none⟩) wr → ∃ q, NoStore wr q ∧ ∀ w', (Instr.index 46 (.agg #[.pointer none, .pointer (some ⟨w.heap.size + 1, 0, none⟩)]) (.int .i64 k)).run Tryz.prog w' = .ok (.pointer q) w') := fun k wr hk h => by
    match k, hk with
    | 0, _ => exact ⟨none, .inl rfl, index_none29 _⟩
    | 1, _ => exact ⟨_, h.no, index_some29 _⟩
  have HO : Hid (∀ wr, ANoneAt w kd x tt mx bk dl tl sl fv (some ⟨w.heap.size + 1, 0, none⟩) wr → ActC w.heap.size kd x tt mx bk dl tl sl wr) := fun wr h => h.out
  have HL : Hid (∀ wr, ANoneAt w kd x tt mx bk dl tl sl fv (some ⟨w.heap.size + 1, 0, none⟩) wr → Calls Tryz.prog 30 #[] wr fun e w' => e = .returned (.bool true) ∧ Below w.heap.size w w') := fun wr h => (lives29 wr).mono fun e w' ⟨he, hb⟩ => ⟨he, bl_then h.hb hb⟩
  have hE : ∀ w, (Op.equalIn 10000 65 (.agg #[.int .u64 0, .int .u64 0, .int .u64 0, .int .u64 0]) (.agg #[.int .u64 0, .int .u64 0, .int .u64 0, .int .u64 0])).run Tryz.prog w = .ok true w := fun w => eqU (0, 0, 0, 0) (0, 0, 0, 0) w
  go_enter Tryz.func6, Tryz.ntmps6
  go_wp2_with fail
  have ha0 := HW0.out (.map none) (.slice none 0 0) (.slice none 0 0)
  have HA0 := Lib.hid ha0
  clear ha0 HW0 hx
  go_loopw [12] (fun iv wr => ∃ k : Nat, iv = .int .i64 k ∧ k ≤ 2 ∧ ANoneAt w kd x tt mx bk dl tl sl fv (some ⟨w.heap.size + 1, 0, none⟩) wr) (fun iv _ => 2 - (intOf iv).toNat)
  case atStart => exact ⟨0, rfl, by omega, HA0.out⟩
  case round =>
    obtain ⟨k, rfl, hk, hA⟩ := hrel
    have HA := Lib.hid hA
    clear hA HA0
    by_cases hlt : k < 2
    · obtain ⟨q, hq, hidx⟩ := HQ.out k wr hlt HA.out
      have HC0 := Lib.hid (HR.out wr q HA.out hq)
      obtain ⟨a0, a1, a2, a3, a4, a5, a6, a7, a8, a9, a10, a11, a12, a13, a14, a15, a16⟩ := HO.out _ HA.out
      clear hq HQ HR HL
      unfold ANoneRound at HC0
      go_wp2_with fail
      refine Calls.mono HC0.out ?_
      rintro e w1 ⟨rfl, hA1, hC⟩
      have HC1 := Lib.hid hC
      clear a0 a1 a2 a3 a4 a5 a6 a7 a8 a9 a10 a11 a12 a13 a14 a15 a16 hC HC0 HA
      obtain ⟨a0, a1, a2, a3, a4, a5, a6, a7, a8, a9, a10, a11, a12, a13, a14, a15, a16⟩ := HO.out _ hA1
      go_wp2_with fail
      refine Calls.mono HC1.out ?_
      rintro e w2 ⟨rfl, hA2, hC⟩
      have HC2 := Lib.hid hC
      clear a0 a1 a2 a3 a4 a5 a6 a7 a8 a9 a10 a11 a12 a13 a14 a15 a16 hC HC1 hA1
      obtain ⟨a0, a1, a2, a3, a4, a5, a6, a7, a8, a9, a10, a11, a12, a13, a14, a15, a16⟩ := HO.out _ hA2
      go_wp2_with fail
      refine Calls.mono HC2.out ?_
      rintro e w3 ⟨rfl, hA3, hC⟩
      have HC3 := Lib.hid hC
      clear a0 a1 a2 a3 a4 a5 a6 a7 a8 a9 a10 a11 a12 a13 a14 a15 a16 hC HC2 hA2
      obtain ⟨a0, a1, a2, a3, a4, a5, a6, a7, a8, a9, a10, a11, a12, a13, a14, a15, a16⟩ := HO.out _ hA3
      go_wp2_with fail
      refine Calls.mono HC3.out ?_
      rintro e w4 ⟨rfl, hA4, hC⟩
      have HC4 := Lib.hid hC
      clear a0 a1 a2 a3 a4 a5 a6 a7 a8 a9 a10 a11 a12 a13 a14 a15 a16 hC HC3 hA3
      obtain ⟨a0, a1, a2, a3, a4, a5, a6, a7, a8, a9, a10, a11, a12, a13, a14, a15, a16⟩ := HO.out _ hA4
      go_wp2_with fail
      refine Calls.mono HC4.out ?_
      rintro e w5 ⟨rfl, hA5, hC⟩
      have HC5 := Lib.hid hC
      clear a0 a1 a2 a3 a4 a5 a6 a7 a8 a9 a10 a11 a12 a13 a14 a15 a16 hC HC4 hA4
      obtain ⟨a0, a1, a2, a3, a4, a5, a6, a7, a8, a9, a10, a11, a12, a13, a14, a15, a16⟩ := HO.out _ hA5
      go_wp2_with fail
      refine Calls.mono HC5.out ?_
      rintro e w6 ⟨rfl, hA6, hC⟩
      have HC6 := Lib.hid hC
      clear a0 a1 a2 a3 a4 a5 a6 a7 a8 a9 a10 a11 a12 a13 a14 a15 a16 hC HC5 hA5
      obtain ⟨a0, a1, a2, a3, a4, a5, a6, a7, a8, a9, a10, a11, a12, a13, a14, a15, a16⟩ := HO.out _ hA6
      go_wp2_with fail
      refine Calls.mono HC6.out ?_
      rintro e w7 ⟨rfl, hA7⟩
      have HA7 := Lib.hid hA7
      clear a0 a1 a2 a3 a4 a5 a6 a7 a8 a9 a10 a11 a12 a13 a14 a15 a16 HC6 hA6 hA7
      go_wp2_with fail
      go_roundw
      case rel => exact ⟨k + 1, by go_num, by omega, HA7.out⟩
      case measure => simp [intOf]; omega
    · obtain rfl : k = 2 := by omega
      have HL1 := Lib.hid (HL.out wr HA.out)
      go_wp2_with (go_at_call 30; refine HL1.out.mono ?_; rintro e w5 ⟨rfl, hb5⟩)
      go_ret
      exact ⟨rfl, hb5⟩
end Go.Proofs.YtngaogfhijaaaaaGreat
