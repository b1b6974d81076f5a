/- What is proved here: due.Add at a block where nothing is due, into a count of nought; fifo.Good of numbers that are not negative. Its conditions: sizes. -/
import Derived.Test.YtngaogfhijaaaaaGreatAllocR
import Derived.Test.YtngaogfhijaaaaaGreatKpR
import Derived.Test.YtngaogfhijaaaaaGreatRowW
import Derived.Sort.CutIn
namespace Go.Proofs.YtngaogfhijaaaaaGreat
open Go.RowKit Go.Shelf

/-- Ints lie in a row from its first cell on. -/
def LieAt (w : World) (g : Nat) (l : List Int) : Prop := ∀ j x, l[j]? = some x → w.cell? ⟨g, j, none⟩ = some (.int .i64 x)
theorem LieAt.below {w w' : World} {g : Nat} {l : List Int} (h : LieAt w g l) (hb : Below w.heap.size w w') : LieAt w' g l := fun j x hj => bl_cell hb (h j x hj)

theorem LieAt.ints {w : World} {g : Nat} {l : List Int} (h : LieAt w g l) (c : Nat) : IntsAt w (.slice (some ⟨g, 0, none⟩) l.length c) l := .inr ⟨_, _, rfl, fun j x hj => by rw [Addr.add_lit, Nat.zero_add]; exact h j x hj⟩

set_option maxRecDepth 100000 in
set_option maxHeartbeats 1000000 in
theorem neg_any (n : Int) (w : World) : Calls Tryz.prog 168 #[.int .i64 n] w fun e w' => e = .returned (.bool (decide (n < 0))) ∧ w = w' := by
  go_enter Tryz.func168, Tryz.ntmps168
  go_wp2_with fail
  go_ret
  exact ⟨rfl, rfl⟩

set_option maxRecDepth 100000 in
set_option maxHeartbeats 1000000 in
theorem index_neg (w : World) (g c : Nat) (l : List Int) (hl : l.length < 1000000) (h : LieAt w g l) (hp : ∀ n ∈ l, 0 ≤ n) : Calls Tryz.prog 141 #[.slice (some ⟨g, 0, none⟩) l.length c, .func (.func 168) #[] #[]] w fun e w' => e = .returned (.int .i64 (-1)) ∧ w = w' := by
  have HC : Hid (∀ k, k < l.length → ∃ n : Int, 0 ≤ n ∧ w.cell? ⟨g, k, none⟩ = some (.int .i64 n)) := fun k hk => ⟨l[k], hp _ (List.getElem_mem hk), h k _ (List.getElem?_eq_getElem hk)⟩
  have hl2 : (l.length : Int) < 9223372036854775807 := by omega
  clear h hp
  generalize l.length = m at *
  go_enter Tryz.func141, Tryz.ntmps141
  go_wp2_with fail
  go_loopw [8] (fun iv wr => ∃ k : Nat, iv = .int .i64 k ∧ k ≤ m ∧ w = wr) (fun iv _ => m - (intOf iv).toNat)
  case atStart => exact ⟨0, rfl, by omega, rfl⟩
  case round =>
    obtain ⟨k, rfl, hk, rfl⟩ := hrel
    by_cases hlt : k < m
    · obtain ⟨n, hn, hc⟩ := HC.out k hlt
      have hd : decide (n < 0) = false := decide_eq_false (by omega)
      have HN := Lib.hid (neg_any n w)
      go_wp2_with (go_at_call 168; refine HN.out.mono ?_; rintro e w1 ⟨rfl, rfl⟩)
      go_roundw
      case rel => exact ⟨k + 1, by go_num, by omega, by first | rfl | trivial⟩
      case measure => simp [intOf]; omega
    · obtain rfl : k = m := by omega
      go_wp2_with fail
      go_ret
      exact ⟨rfl, rfl⟩

set_option maxRecDepth 100000 in
set_option maxHeartbeats 1000000 in
theorem fgood_yes (w : World) (g c : Nat) (l : List Int) (hl0 : 0 < l.length) (hl : l.length < 1000000) (h : LieAt w g l) (hp : ∀ n ∈ l, 0 ≤ n) : Calls Tryz.prog 152 #[.slice (some ⟨g, 0, none⟩) l.length c] w fun e w' => e = .returned (.bool true) ∧ w = w' := by
  have HI := Lib.hid (index_neg w g c l hl h hp)
  have HC : Hid (Calls Tryz.prog 92 #[.slice (some ⟨g, 0, none⟩) l.length c, .func (.func 168) #[] #[]] w fun e w' => e = .returned (.bool false) ∧ w = w') := by
    clear h hp
    go_enter Tryz.func92, Tryz.ntmps92
    go_wp2_with (go_at_call 141; refine HI.out.mono ?_; rintro e w1 ⟨rfl, rfl⟩)
    go_ret
    exact ⟨rfl, rfl⟩
  have hd : decide ((0 : Int) < (l.length : Int)) = true := decide_eq_true (by omega)
  clear h hp HI
  go_enter Tryz.func152, Tryz.ntmps152
  go_wp2_with (go_at_call 92; refine HC.out.mono ?_; rintro e w1 ⟨rfl, rfl⟩)
  go_ret
  exact ⟨rfl, rfl⟩

set_option maxRecDepth 100000 in
set_option maxHeartbeats 1000000 in
theorem dall_any (q : Option Addr) (p : ByteArray) (w : World) : Calls Tryz.prog 165 #[.pointer q, .string p] w fun e w' =>
    e = .returned (.func (.func 176) #[] #[.pointer (some ⟨w.heap.size, 0, none⟩), .pointer (some ⟨w.heap.size + 1, 0, none⟩)]) ∧ w' = (w.alloc (.cells #[.pointer q] 25)).alloc (.cells #[.string p] 9) := by
  go_enter Tryz.func165, Tryz.ntmps165
  go_wp2_with fail
  go_ret
  exact ⟨rfl, rfl⟩

set_option maxRecDepth 100000 in
set_option maxHeartbeats 1000000 in
theorem place_any (bl n : Int) (h1 : bl < 9223372036854775808) (h2 : n < 9223372036854775808) (w : World) : Calls Tryz.prog 166 #[.agg #[.int .i64 bl, .int .i64 n]] w fun e w' => e = .returned (.string (keyL 26 [bl, n])) ∧ Below w.heap.size w w' := by
  have hc0 := heap_alloc_new w (.cells #[.int .i64 bl, .int .i64 n] 210)
  have q0 : (w.alloc (.cells #[.int .i64 bl, .int .i64 n] 210)).cell? ⟨w.heap.size, 0, none⟩ = some (.int .i64 bl) := by rw [cell_of_row _ _ _ _ _ _ hc0]; rfl
  have q1 : (w.alloc (.cells #[.int .i64 bl, .int .i64 n] 210)).cell? ⟨w.heap.size, 1, none⟩ = some (.int .i64 n) := by rw [cell_of_row _ _ _ _ _ _ hc0]; rfl
  have HK : Hid (Calls Tryz.prog 75 #[.int .i64 26, .slice (some ⟨w.heap.size + 1, 0, none⟩) 2 2] ((w.alloc (.cells #[.int .i64 bl, .int .i64 n] 210)).alloc (.cells #[.int .i64 bl, .int .i64 n] 3)) fun e w' => e = .returned (.string (keyL 26 [bl, n])) ∧ Below w.heap.size w w') := by
    have hr := heap_alloc_new (w.alloc (.cells #[.int .i64 bl, .int .i64 n] 210)) (.cells #[.int .i64 bl, .int .i64 n] 3)
    rw [World.size_alloc] at hr
    exact (key_any 26 (by decide) (by decide) _ [bl, n] _ (two_ints' _ _ _ _ hr) (by simp) (fun m hm => by
      simp only [List.mem_cons, List.not_mem_nil, or_false] at hm
      rcases hm with rfl | rfl <;> assumption)).mono fun e w' ⟨he, hb⟩ => ⟨he, bl_then (bl_alloc (bl_alloc (Below.refl _ w) _) _) hb⟩
  clear hc0
  generalize keyL 26 [bl, n] = k at *
  go_enter Tryz.func166, Tryz.ntmps166
  go_wp2_with (go_at_call 75; refine HK.out.mono ?_; rintro e w1 ⟨rfl, h1⟩)
  go_ret
  exact ⟨rfl, h1⟩

abbrev K27 : ByteArray := keyL 27 []
set_option maxRecDepth 100000 in
set_option maxHeartbeats 1000000 in
theorem dlen_any (w : World) (q : Option Addr) (s : St) (h : ReadAt w.heap.size w q s) : Calls Tryz.prog 167 #[.pointer q] w (RetInt w (s.int K27)) := by
  have HK := Lib.hid (key_new0 27 (by decide) (by decide) w)
  have HI : Hid (∀ w1, Below w.heap.size w w1 → Calls Tryz.prog 108 #[.pointer q, .string (keyL 27 [])] w1 (RetInt w (s.int K27))) := fun w1 h1 => ((h.below h1).int _).mono fun _ _ h2 => h2.of_below h1
  generalize s.int K27 = n at *
  unfold K27 at *
  generalize keyL 27 [] = k at *
  clear h
  go_enter Tryz.func167, Tryz.ntmps167
  go_wp2_with (first | (go_at_call 75; refine Calls.mono HK.out ?_; rintro e w1 ⟨rfl, h1⟩) | (go_at_call 108; refine (HI.out _ h1).mono ?_; rintro e w' ⟨rfl, h2⟩))
  go_ret
  exact ⟨rfl, h2⟩

attribute [local go_sem] Oper.semAt_some

set_option maxRecDepth 100000 in
set_option maxHeartbeats 4000000 in
theorem dall1_none (l Bs Bp : Nat) (q : Option Addr) (p : ByteArray) (J Jx : List ((Int × Int) × Value) → World → Prop) (W : World) (hJ : AbidesFrom W.heap.size J)
    (hU : Calls Tryz.prog 56 #[.pointer q, .string p] W fun e w2 => ∃ a' c, e = .returned (.slice a' 0 c) ∧ Below W.heap.size W w2) (hBs : Boxed W Bs 25 (.pointer q)) (hBp : Boxed W Bp 9 (.string p)) (h0 : J [] W) :
    CallsIn Fence.wide 4 Tryz.prog 176 (#[.func (.yield l) #[] #[]] ++ #[.pointer (some ⟨Bs, 0, none⟩), .pointer (some ⟨Bp, 0, none⟩)]) W fun e W' => (∃ v, e = .returned v) ∧
      ((∃ ys : List ((Int × Int) × Value), ys = [] ∧ J ys W') ∨ (∃ pre, True ∧ Jx pre W')) := by
  have HU : Hid (Calls Tryz.prog 56 #[.pointer q, .string p] W fun e w2 => ∃ a' c, e = .returned (.slice a' 0 c) ∧ J [] w2) := hU.mono fun e w2 ⟨a', c, he, hb⟩ => ⟨a', c, he, hJ _ _ _ none h0 (grown_below hb) (fun r e => by cases e)⟩
  have hc1 := hBs.cell
  have hc2 := hBp.cell
  refine callsIn_of_wp Tryz.func176 rfl trivial ?_ rfl
  simp only [Tryz.ntmps176, List.size_toArray, List.length_cons, List.length_nil, Nat.reduceAdd, Nat.reduceSub, Array.replicate_succ, Array.replicate_zero, List.push_toArray, List.append_toArray, List.nil_append, List.cons_append]
  clear hJ hU
  gi_wp2_with (refine ⟨trivial, ?_⟩; gi_at_call 56; refine (callsIn_wide.2 HU.out).mono ?_; rintro e w2 ⟨a', c, rfl, hJ2⟩)
  have HJ2 := Lib.hid hJ2
  clear hJ2 HU hc1 hc2 hBs hBp h0
  gi_loopw [14] (fun iv wr => iv = .int .i64 0 ∧ J [] wr) (fun _ _ => 0)
  case atStart => exact ⟨rfl, HJ2.out⟩
  case round =>
    obtain ⟨rfl, hj⟩ := hrel
    have HJ3 := Lib.hid hj
    clear hj
    gi_wp2
    go_end0
    exact ⟨⟨_, rfl⟩, .inl ⟨_, rfl, HJ3.out⟩⟩

theorem dall_stops (w0 : World) (b : Nat) (s : St) (L : List Nat) (p : ByteArray) (h : SRep w0 b s L) (hz : s.size < 1000000000000) (hU : underE p s.ents = []) :
    SeqStopsK Fence.wide 4 Tryz.prog 176 #[.pointer (some ⟨w0.heap.size, 0, none⟩), .pointer (some ⟨w0.heap.size + 1, 0, none⟩)] (fun x : (Int × Int) × Value => #[.agg #[.int .i64 x.1.1, .int .i64 x.1.2], x.2]) (KpR w0.heap.size) (fun ys => ys = []) (fun _ => True) 0
      ((w0.alloc (.cells #[.pointer (some ⟨b, 0, none⟩)] 25)).alloc (.cells #[.string p] 9)) := fun l J Jx W hbw hJ _ _ h0 => by
  have bS := Boxed.new w0 25 (.pointer (some ⟨b, 0, none⟩))
  have bP := Boxed.new (w0.alloc (.cells #[.pointer (some ⟨b, 0, none⟩)] 25)) 9 (.string p)
  rw [World.size_alloc] at bP
  have hS : SRep W b s L := (h.below (bl_alloc (bl_alloc (Below.refl _ w0) _) _)).below hbw
  refine dall1_none l _ _ _ p J Jx W hJ ?_ ((hbw.block _ (bS.alloc (.cells #[.string p] 9)).lt).trans (bS.alloc _)) ((hbw.block _ bP.lt).trans bP) h0
  refine (under_any W b s L p hS hz).mono fun e w2 ⟨v, he, hO⟩ => ?_
  rw [hU] at hO
  obtain ⟨a', c, rfl, _⟩ := hO.1.pairs
  exact ⟨a', c, he, hO.2.2⟩

/-- What Add's end does. -/
def DueEnd (b : Nat) (bl : Nat) (g c : Nat) (l : List Int) (R : World → Prop) (W : World) : Prop :=
  Calls Tryz.prog 166 #[.agg #[.int .i64 bl, .int .i64 0]] W fun e w1 => e = .returned (.string (keyL 26 [(bl : Int), 0])) ∧
  Calls Tryz.prog 47 #[.pointer (some ⟨b, 0, none⟩), .string (keyL 26 [(bl : Int), 0]), .slice (some ⟨g, 0, none⟩) l.length c] w1 fun e w2 => e = .returned (.tuple #[]) ∧
  Calls Tryz.prog 75 #[.int .i64 27, .slice none 0 0] w2 fun e w3 => e = .returned (.string K27) ∧
  Calls Tryz.prog 167 #[.pointer (some ⟨b, 0, none⟩)] w3 fun e w4 => e = .returned (.int .i64 0) ∧
  Calls Tryz.prog 87 #[.pointer (some ⟨b, 0, none⟩), .string K27, .int .i64 1] w4 fun e w5 => e = .returned (.tuple #[]) ∧ R w5

set_option maxRecDepth 100000 in
theorem due_end {w : World} {b : Nat} {s : St} {L : List Nat} {f bl g c : Nat} {l : List Int} (h : SRep w b s L) (hf : s.Fit f) (hm : f < 10000000000) (hbl : bl ≤ 1099511627776) (hl0 : 0 < l.length) (hl : l.length < 100000) (hp : ∀ n ∈ l, 0 ≤ n ∧ n < 9223372036854775808) (hg : LieAt w g l)
    (h27 : (s.put (keyL 26 [(bl : Int), 0]) (rowB l)).int K27 = 0) {W : World} (hW : Below w.heap.size w W) {D : Nat} (hD : w.heap.size ≤ D) (hK : W.heap[D]? = some (.deferred (some []))) :
    DueEnd b bl g c l (fun w5 => w5.heap[D]? = some (.deferred (some [])) ∧ RetSt w b L (.int .i64 0) ((s.put (keyL 26 [(bl : Int), 0]) (rowB l)).setInt K27 1) (.returned (.int .i64 0)) (w5.putObj D (.deferred none))) W := by
  have hz : s.size < 1000000000000 := Nat.lt_of_le_of_lt hf.size (by omega)
  have hrl : (rowB l).size ≤ 1000000 := by
    show (rowBy l).toArray.size ≤ _
    rw [List.size_toArray, rowBy_len]; omega
  have hf1 := hf.put (keyL 26 [(bl : Int), 0]) hrl
  have hz1 : (s.put (keyL 26 [(bl : Int), 0]) (rowB l)).size < 1000000000000 := Nat.lt_of_le_of_lt hf1.size (by omega)
  refine (place_any bl 0 (by omega) (by omega) W).mono fun e w1 ⟨he, hb1⟩ => ⟨he, ?_⟩
  have hW1 := bl_then hW hb1
  have hK1 : w1.heap[D]? = some (.deferred (some [])) := (hb1.block _ (Array.getElem?_eq_some_iff.1 hK).1).trans hK
  refine (setRow_any w1 b s L _ _ l (h.below hW1) hz ((hg.below hW1).ints c) (by omega) (by intro e; rw [e] at hl0; exact absurd hl0 (by decide)) hp).mono fun e w2 ⟨he, L2, hS2, st2⟩ => ⟨he, ?_⟩
  have hDL : ∀ k ∈ L, k ≠ D := fun k hk e => by have := h.lt k hk; omega
  have hK2 : w2.heap[D]? = some (.deferred (some [])) := (st2.fr.block D (Array.getElem?_eq_some_iff.1 hK1).1 (fun hm => hDL D hm rfl)).trans hK1
  have hD2 : ∀ k ∈ L2, k ≠ D := fun k hk e => by
    subst e
    rcases st2.own k hk with h1 | h1
    · exact hDL k h1 rfl
    · have := (Array.getElem?_eq_some_iff.1 hK1).1; omega
  refine (key_new0 27 (by decide) (by decide) w2).mono fun e w3 ⟨he, hb3⟩ => ⟨he, ?_⟩
  have hS3 := hS2.below hb3
  have hK3 : w3.heap[D]? = some (.deferred (some [])) := (hb3.block _ (Array.getElem?_eq_some_iff.1 hK2).1).trans hK2
  refine (dlen_any w3 _ _ (ReadAt.made hS3 hf1 (by omega))).mono fun e w4 ⟨he, hb4⟩ => ⟨by rw [he, h27]; rfl, ?_⟩
  have hS4 := hS3.below hb4
  have hK4 : w4.heap[D]? = some (.deferred (some [])) := (hb4.block _ (Array.getElem?_eq_some_iff.1 hK3).1).trans hK3
  refine (setIntG_any w4 b _ L2 K27 1 (by decide) hS4 hz1).mono fun e w5 ⟨he, L5, hS5, st5⟩ => ⟨he, ?_⟩
  have hK5 : w5.heap[D]? = some (.deferred (some [])) := (st5.fr.block D (Array.getElem?_eq_some_iff.1 hK4).1 (fun hm => hD2 D hm rfl)).trans hK4
  refine ⟨hK5, rfl, L5, ?_, ?_⟩
  · refine hS5.frame fun k hk => World.putObj_heap_other fun e => ?_
    subst e
    rcases st5.own k hk with h1 | h1
    · exact hD2 k h1 rfl
    · have := (Array.getElem?_eq_some_iff.1 hK4).1; omega
  · have sA : Step w L w1 L := ⟨Fr.of_below hW1 _, fun _ h => .inl h⟩
    have sB := (sA.trans st2)
    have sC : Step w2 L2 w4 L2 := ⟨Fr.of_below (bl_then (bl_then (Below.refl _ w2) hb3) hb4) _, fun _ h => .inl h⟩
    have sD := (sB.trans sC).trans st5
    refine ⟨⟨sD.fr.os, sD.fr.tape, sD.fr.output, by simpa using sD.fr.size, fun k hk hn => ?_⟩, sD.own⟩
    rw [World.putObj_heap_other (by omega)]
    exact sD.fr.block k hk hn

end Go.Proofs.YtngaogfhijaaaaaGreat
