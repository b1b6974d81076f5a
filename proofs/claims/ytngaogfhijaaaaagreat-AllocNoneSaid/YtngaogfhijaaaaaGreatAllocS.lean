/- What is proved here: alloc.Sum where no store was made. Its condition: ints below 2^63. -/
import Derived.Test.YtngaogfhijaaaaaGreatAllocN
import Derived.Test.YtngaogfhijaaaaaGreatKpR
import Derived.Sort.CutIn
namespace Go.Proofs.YtngaogfhijaaaaaGreat
open Go.RowKit Go.Shelf

attribute [local go_sem] Oper.semAt_some

set_option maxRecDepth 100000 in
set_option maxHeartbeats 1000000 in
theorem aeach_any (q : Option Addr) (t a b : Int) (w : World) : Calls Tryz.prog 76 #[.pointer q, .int .i64 t, .int .i64 a, .int .i64 b] w fun e w' =>
    e = .returned (.func (.func 134) #[] #[.pointer (some ⟨w.heap.size, 0, none⟩), .pointer (some ⟨w.heap.size + 1, 0, none⟩), .pointer (some ⟨w.heap.size + 1 + 1, 0, none⟩), .pointer (some ⟨w.heap.size + 1 + 1 + 1, 0, none⟩)]) ∧ w' = (((w.alloc (.cells #[.pointer q] 25)).alloc (.cells #[.int .i64 t] 3)).alloc (.cells #[.int .i64 a] 3)).alloc (.cells #[.int .i64 b] 3) := by
  go_enter Tryz.func76, Tryz.ntmps76
  go_wp2_with fail
  go_ret
  exact ⟨rfl, rfl⟩

set_option maxRecDepth 100000 in
set_option maxHeartbeats 4000000 in
theorem aeach1_not (l Bs Bt Ba Bb : Nat) (q : Option Addr) (t : Nat) (ht1 : 1 ≤ t) (ht2 : t ≤ 255) (a b : Int) (ha : a < 9223372036854775808) (hb : b < 9223372036854775808) (J Jx : List I4 → World → Prop) (W : World) (hJ : AbidesFrom W.heap.size J)
    (hN : NoStore W q) (hBs : Boxed W Bs 25 (.pointer q)) (hBt : Boxed W Bt 3 (.int .i64 t)) (hBa : Boxed W Ba 3 (.int .i64 a)) (hBb : Boxed W Bb 3 (.int .i64 b)) (h0 : J [] W) :
    CallsIn Fence.wide 4 Tryz.prog 134 (#[.func (.yield l) #[] #[]] ++ #[.pointer (some ⟨Bs, 0, none⟩), .pointer (some ⟨Bt, 0, none⟩), .pointer (some ⟨Ba, 0, none⟩), .pointer (some ⟨Bb, 0, none⟩)]) W fun e W' => (∃ v, e = .returned v) ∧
      ((∃ ys : List I4, ys = [] ∧ J ys W') ∨ (∃ pre, True ∧ Jx pre W')) := by
  have hcB : ∀ w1, Below W.heap.size W w1 → w1.cell? ⟨Bs, 0, none⟩ = some (.pointer q) := fun w1 h1 => (h1.cell (p := ⟨Bs, 0, none⟩) hBs.lt).trans hBs.cell
  have HT : Hid (∀ w1, Below W.heap.size W w1 → Calls Tryz.prog 75 #[.int .i64 t, .slice (some ⟨w1.heap.size, 0, none⟩) 2 2] (w1.alloc (.cells #[.int .i64 a, .int .i64 b] 3)).drew fun e w2 => e = .returned (.string (keyL t [a, b])) ∧ Below W.heap.size W w2 ∧ w2.cell? ⟨Bs, 0, none⟩ = some (.pointer q)) := fun w1 h1 => by
    refine (key_any t ht1 ht2 _ [a, b] (w1.alloc (.cells #[.int .i64 a, .int .i64 b] 3)).drew ?_ (by simp) (fun m hm => by
      simp only [List.mem_cons, List.not_mem_nil, or_false] at hm
      rcases hm with rfl | rfl <;> assumption)).mono fun e w2 ⟨he, hb⟩ => ⟨he, ?_⟩
    · exact two_ints' _ _ _ _ (heap_alloc_new w1 (.cells #[.int .i64 a, .int .i64 b] 3))
    · have hb' := bl_then (bl_drew (bl_alloc h1 (.cells #[.int .i64 a, .int .i64 b] 3))) hb
      exact ⟨hb', hcB _ hb'⟩
  have HU : Hid (∀ w1, Below W.heap.size W w1 → Calls Tryz.prog 56 #[.pointer q, .string (keyL t [a, b])] w1 fun e w2 => ∃ a' c, e = .returned (.slice a' 0 c) ∧ J [] w2) := fun w1 h1 =>
    (under_not w1 q (keyL t [a, b]) (hN.below h1)).mono fun e w2 ⟨v, he, hO⟩ => by
      obtain ⟨a', c, rfl, _⟩ := hO.1.pairs
      exact ⟨a', c, he, hJ _ _ _ none h0 (grown_below (h1.trans (hO.2.2.mono h1.size))) (fun r e => by cases e)⟩
  have hc1 := hBs.cell
  have hc2 := hBt.cell
  have hc3 := hBa.cell
  have hc4 := hBb.cell
  have hbW := Below.refl W.heap.size W
  have hc5 : (W.alloc (.cells #[.int .i64 a, .int .i64 b] 3)).cell? ⟨Bs, 0, none⟩ = some (.pointer q) := hcB _ (bl_alloc hbW _)
  have hc6 : (W.alloc (.cells #[.int .i64 a, .int .i64 b] 3)).cell? ⟨Bt, 0, none⟩ = some (.int .i64 t) := ((bl_alloc hbW (.cells #[.int .i64 a, .int .i64 b] 3)).cell (p := ⟨Bt, 0, none⟩) hBt.lt).trans hBt.cell
  refine callsIn_of_wp Tryz.func134 rfl trivial ?_ rfl
  simp only [Tryz.ntmps134, List.size_toArray, List.length_cons, List.length_nil, Nat.reduceAdd, Nat.reduceSub, Array.replicate_succ, Array.replicate_zero, List.push_toArray, List.append_toArray, List.nil_append, List.cons_append]
  have hmo : Tryz.prog.follows .mixedOrders = true := by kernel_rfl
  generalize keyL t [a, b] = kt at *
  clear hJ
  gi_wp2
  gi_cut [17, 18, 19] from 20 (fun s12 s13 s14 wc => ∃ a' c, s12 = .slice a' 0 c ∧ s13 = .int .i64 0 ∧ s14 = .int .i64 0 ∧ J [] wc)
  case first =>
    gi_region_with_o (first
      | (refine ⟨trivial, ?_⟩; gi_at_call 75; refine (callsIn_wide.2 (HT.out _ hbW)).mono ?_; rintro e w1 ⟨rfl, hb1, hcw1⟩)
      | (refine ⟨trivial, ?_⟩; gi_at_call 56; refine (callsIn_wide.2 (HU.out _ hb1)).mono ?_; rintro e w2 ⟨a', c, rfl, hJ2⟩))
    all_goals
      gi_wp2
      gi_meet
      case rel => exact ⟨a', c, rfl, rfl, rfl, hJ2⟩
  case rest =>
    obtain ⟨a', c, rfl, rfl, rfl, hJ2⟩ := hcut
    have HJ2 := Lib.hid hJ2
    clear hJ2
    gi_wp2
    gi_loopw [19] (fun iv wr => iv = .int .i64 0 ∧ J [] wr) (fun _ _ => 0)
    case atStart => exact ⟨rfl, HJ2.out⟩
    case round =>
      obtain ⟨rfl, hj⟩ := hrel
      have HJ3 := Lib.hid hj
      clear hj
      gi_wp2
      go_end0
      exact ⟨⟨_, rfl⟩, .inl ⟨_, rfl, HJ3.out⟩⟩

theorem aeach_stops (Bs Bt Ba Bb : Nat) (q : Option Addr) (t : Nat) (ht1 : 1 ≤ t) (ht2 : t ≤ 255) (a b : Int) (ha : a < 9223372036854775808) (hb : b < 9223372036854775808) (n₀ : Nat) (w : World) (hN : NoStore w q) (hBs : Boxed w Bs 25 (.pointer q)) (hBt : Boxed w Bt 3 (.int .i64 t)) (hBa : Boxed w Ba 3 (.int .i64 a)) (hBb : Boxed w Bb 3 (.int .i64 b)) :
    SeqStopsK Fence.wide 4 Tryz.prog 134 #[.pointer (some ⟨Bs, 0, none⟩), .pointer (some ⟨Bt, 0, none⟩), .pointer (some ⟨Ba, 0, none⟩), .pointer (some ⟨Bb, 0, none⟩)] (fun x : I4 => #[idV x]) (KpR n₀) (fun ys => ys = []) (fun _ => True) 0 w := fun l J Jx W hbw hJ _ _ h0 =>
  aeach1_not l Bs Bt Ba Bb q t ht1 ht2 a b ha hb J Jx W hJ (hN.below hbw) ((hbw.block Bs hBs.lt).trans hBs) ((hbw.block Bt hBt.lt).trans hBt) ((hbw.block Ba hBa.lt).trans hBa) ((hbw.block Bb hBb.lt).trans hBb) h0

/-- Where Sum stands: nothing is summed. -/
structure SumAt (w : World) (q : Option Addr) (W : World) : Prop where
  b : Below w.heap.size w W
  no : NoStore W q
  box : Boxed W w.heap.size 25 (.pointer q)
  r6 : W.heap[w.heap.size + 1]? = some (.cells (uL (0, 0, 0, 0)) 65 (0, 0))
  r7 : W.heap[w.heap.size + 1 + 1]? = some (.cells (uL (0, 0, 0, 0)) 65 (0, 0))
theorem SumAt.below {w : World} {q : Option Addr} {W W' : World} (h : SumAt w q W) (hb : Below W.heap.size W W') : SumAt w q W' :=
  ⟨bl_then h.b hb, h.no.below hb, (hb.block _ (Array.getElem?_eq_some_iff.1 h.box).1).trans h.box, (hb.block _ (Array.getElem?_eq_some_iff.1 h.r6).1).trans h.r6, (hb.block _ (Array.getElem?_eq_some_iff.1 h.r7).1).trans h.r7⟩
theorem SumAt.start (w : World) (q : Option Addr) (h : NoStore w q) : SumAt w q (((w.alloc (.cells #[.pointer q] 25)).alloc (.cells #[.int .u64 0, .int .u64 0, .int .u64 0, .int .u64 0] 65)).alloc (.cells #[.int .u64 0, .int .u64 0, .int .u64 0, .int .u64 0] 65)) := by
  have hb := bl_alloc (bl_alloc (bl_alloc (Below.refl _ w) (.cells #[.pointer q] 25)) (.cells #[.int .u64 0, .int .u64 0, .int .u64 0, .int .u64 0] 65)) (.cells #[.int .u64 0, .int .u64 0, .int .u64 0, .int .u64 0] 65)
  refine ⟨hb, h.below hb, ?_, ?_, ?_⟩
  · show (World.heap _)[_]? = _
    rw [heap_alloc_old _ _ (by first | (simp; done) | (simp; omega)), heap_alloc_old _ _ (by simp)]; exact heap_alloc_new w _
  · rw [heap_alloc_old _ _ (by simp)]
    have := heap_alloc_new (w.alloc (.cells #[.pointer q] 25)) (.cells #[.int .u64 0, .int .u64 0, .int .u64 0, .int .u64 0] 65)
    rw [World.size_alloc] at this; exact this
  · have := heap_alloc_new ((w.alloc (.cells #[.pointer q] 25)).alloc (.cells #[.int .u64 0, .int .u64 0, .int .u64 0, .int .u64 0] 65)) (.cells #[.int .u64 0, .int .u64 0, .int .u64 0, .int .u64 0] 65)
    rw [World.size_alloc, World.size_alloc] at this; exact this

theorem aeach_four (w0 : World) (q : Option Addr) (t : Nat) (ht1 : 1 ≤ t) (ht2 : t ≤ 255) (a b : Int) (ha : a < 9223372036854775808) (hb : b < 9223372036854775808) (hN : NoStore w0 q) :
    SeqStopsK Fence.wide 4 Tryz.prog 134 #[.pointer (some ⟨w0.heap.size, 0, none⟩), .pointer (some ⟨w0.heap.size + 1, 0, none⟩), .pointer (some ⟨w0.heap.size + 1 + 1, 0, none⟩), .pointer (some ⟨w0.heap.size + 1 + 1 + 1, 0, none⟩)] (fun x : I4 => #[idV x]) (KpR w0.heap.size) (fun ys => ys = []) (fun _ => True) 0
      ((((w0.alloc (.cells #[.pointer q] 25)).alloc (.cells #[.int .i64 t] 3)).alloc (.cells #[.int .i64 a] 3)).alloc (.cells #[.int .i64 b] 3)) := by
  have bS := Boxed.new w0 25 (.pointer q)
  have bT := Boxed.new (w0.alloc (.cells #[.pointer q] 25)) 3 (.int .i64 t)
  have bA := Boxed.new ((w0.alloc (.cells #[.pointer q] 25)).alloc (.cells #[.int .i64 t] 3)) 3 (.int .i64 a)
  have bB := Boxed.new (((w0.alloc (.cells #[.pointer q] 25)).alloc (.cells #[.int .i64 t] 3)).alloc (.cells #[.int .i64 a] 3)) 3 (.int .i64 b)
  simp only [World.size_alloc] at bT bA bB
  exact aeach_stops _ _ _ _ q t ht1 ht2 a b ha hb _ _ (hN.below (bl_alloc (bl_alloc (bl_alloc (bl_alloc (Below.refl _ w0) _) _) _) _)) (((bS.alloc _).alloc _).alloc _) ((bT.alloc _).alloc _) (bA.alloc _) bB

set_option maxRecDepth 100000 in
set_option maxHeartbeats 4000000 in
theorem sum_not (w : World) (q : Option Addr) (a b : Int) (ha : a < 9223372036854775808) (hb : b < 9223372036854775808) (h : NoStore w q) : Calls Tryz.prog 28 #[.pointer q, .int .i64 a, .int .i64 b] w fun e w' => e = .returned (uV (0, 0, 0, 0)) ∧ Below w.heap.size w w' := by
  refine (callsIn_wide (n := 5)).1 ?_
  refine callsIn_of_wp_marks Tryz.func28 rfl trivial ?_ rfl
  simp only [Tryz.ntmps28, List.size_toArray, List.length_cons, List.length_nil, Nat.reduceAdd, Nat.reduceSub, Array.replicate_succ, Array.replicate_zero, List.push_toArray, List.append_toArray, List.nil_append, List.cons_append]
  by_cases h1 : a < 1 ∨ b < 1
  · have HS0 := Lib.hid (SumAt.start w q h)
    clear h
    by_cases h2 : a < 1
    · have hd1 : decide (a < 1) = true := decide_eq_true h2
      gi_wp2
      exact ⟨_, results_cell_row rfl _ _ (w.heap.size + 1) 65 (uL (0, 0, 0, 0)) (0, 0) _ rfl HS0.out.r6 Tryz.underlying65 rfl (by kernel_rfl), rfl, HS0.out.b⟩
    · have hd1 : decide (a < 1) = false := decide_eq_false h2
      have hd2 : decide (b < 1) = true := decide_eq_true (by omega)
      gi_wp2
      exact ⟨_, results_cell_row rfl _ _ (w.heap.size + 1) 65 (uL (0, 0, 0, 0)) (0, 0) _ rfl HS0.out.r6 Tryz.underlying65 rfl (by kernel_rfl), rfl, HS0.out.b⟩
  · have hd1 : decide (a < 1) = false := decide_eq_false (by omega)
    have hd2 : decide (b < 1) = false := decide_eq_false (by omega)
    have h0 : SumAt w q (((w.alloc (.cells #[.pointer q] 25)).alloc (.cells #[.int .u64 0, .int .u64 0, .int .u64 0, .int .u64 0] 65)).alloc (.cells #[.int .u64 0, .int .u64 0, .int .u64 0, .int .u64 0] 65)) := SumAt.start w q h
    gi_wp2_with fail
    generalize (((w.alloc (.cells #[.pointer q] 25)).alloc (.cells #[.int .u64 0, .int .u64 0, .int .u64 0, .int .u64 0] 65)).alloc (.cells #[.int .u64 0, .int .u64 0, .int .u64 0, .int .u64 0] 65)) = w0 at *
    have HS0 := Lib.hid h0
    have hb0 := h0.box.cell
    clear h0 h
    gi_wp2_with (refine ⟨trivial, ?_⟩; gi_at_call 76; refine (callsIn_wide.2 (aeach_any q 29 a b _)).mono ?_; rintro e w' ⟨rfl, rfl⟩)
    refine wpIn_rangeFunc_ownH rfl (by decide) (gf := 134) (lb := #[.pointer (some ⟨w0.heap.size, 0, none⟩), .pointer (some ⟨w0.heap.size + 1, 0, none⟩), .pointer (some ⟨w0.heap.size + 1 + 1, 0, none⟩), .pointer (some ⟨w0.heap.size + 1 + 1 + 1, 0, none⟩)]) rfl trivial (enters_of Tryz.func134 (by kernel_rfl) rfl)
      (aeach_four w0 q 29 (by decide) (by decide) a b ha hb HS0.out.no) KpR.trans (KpR.turn (by simp; omega)) (Below.refl _ _) (fun _ => rfl)
      (fun pre W => pre = [] ∧ Below w0.heap.size w0 W) (fun _ _ _ => False)
      (OwnFrom.and (fun _ _ _ _ hs _ _ => hs) (ownFrom_below (Nat.le_refl _) (by simp; omega))) (fun _ _ _ _ _ hs _ _ => hs)
      ⟨rfl, bl_alloc (bl_alloc (bl_alloc (bl_alloc (Below.refl _ w0) _) _) _) _⟩
      (fun _ _ _ => True) (fun _ _ _ _ _ _ _ _ _ => trivial) ?assign ?body ?done ?stop
    case stop => rintro D c pre W _ _ h _; exact h.elim
    case body => rintro l pre x a' W _ _ _ _ hlt; exact absurd hlt (Nat.not_lt_zero _)
    case assign =>
      intro l pre x W K hI hK
      obtain ⟨hp, hB⟩ := hI
      gi_wp2
      have hal := (Below.refl W.heap.size W).alloc (Nat.le_refl _) (.cells (idL x) 62)
      exact hK _ _ ⟨by simp, fun k o _ hk _ => (Below.heap_alloc W _ k (Array.getElem?_eq_some_iff.1 hk).1).trans hk⟩ (KpR.of_below hal hB.size) ⟨hp, hB.trans (hal.mono hB.size)⟩ trivial
    case done =>
      rintro D ys W hD - ⟨rfl, hB⟩ hK
      have HS1 := Lib.hid (HS0.out.below hB)
      have hb1 := HS1.out.box.cell
      have HK1 := Lib.hid hK
      clear hK
      gi_wp2_with (refine ⟨trivial, ?_⟩; gi_at_call 76; refine (callsIn_wide.2 (aeach_any q 30 a b _)).mono ?_; rintro e w' ⟨rfl, rfl⟩)
      refine wpIn_rangeFunc_ownH rfl (by decide) (gf := 134) (lb := #[.pointer (some ⟨W.heap.size, 0, none⟩), .pointer (some ⟨W.heap.size + 1, 0, none⟩), .pointer (some ⟨W.heap.size + 1 + 1, 0, none⟩), .pointer (some ⟨W.heap.size + 1 + 1 + 1, 0, none⟩)]) rfl trivial (enters_of Tryz.func134 (by kernel_rfl) rfl)
        (aeach_four W q 30 (by decide) (by decide) a b ha hb HS1.out.no) KpR.trans (KpR.turn (by simp; omega)) (Below.refl _ _) (fun _ => rfl)
        (fun pre W2 => pre = [] ∧ Below W.heap.size W W2) (fun _ _ _ => False)
        (OwnFrom.and (fun _ _ _ _ hs _ _ => hs) (ownFrom_below (Nat.le_refl _) (by simp; omega))) (fun _ _ _ _ _ hs _ _ => hs)
        ⟨rfl, bl_alloc (bl_alloc (bl_alloc (bl_alloc (Below.refl _ W) _) _) _) _⟩
        (fun _ _ _ => True) (fun _ _ _ _ _ _ _ _ _ => trivial) ?assign2 ?body2 ?done2 ?stop2
      case stop2 => rintro D c pre W _ _ h _; exact h.elim
      case body2 => rintro l pre x a' W _ _ _ _ hlt; exact absurd hlt (Nat.not_lt_zero _)
      case assign2 =>
        intro l pre x W2 K hI hK
        obtain ⟨hp, hB2⟩ := hI
        gi_wp2
        have hal := (Below.refl W2.heap.size W2).alloc (Nat.le_refl _) (.cells (idL x) 62)
        exact hK _ _ ⟨by simp, fun k o _ hk _ => (Below.heap_alloc W2 _ k (Array.getElem?_eq_some_iff.1 hk).1).trans hk⟩ (KpR.of_below hal hB2.size) ⟨hp, hB2.trans (hal.mono hB2.size)⟩ trivial
      case done2 =>
        rintro D2 ys W2 hD2 - ⟨rfl, hB2⟩ hK2
        have HS2 := Lib.hid (HS1.out.below hB2)
        obtain ⟨_, _, _, _, _⟩ := row4 HS2.out.r7
        obtain ⟨_, _, _, _, _, _, _, _⟩ := row4 HS2.out.r6
        have hs7 := (Array.getElem?_eq_some_iff.1 HS1.out.r7).1
        have hs0 := (Array.getElem?_eq_some_iff.1 HS0.out.r7).1
        simp only [World.size_alloc] at hD hD2
        have hDW : D < W.heap.size := (Array.getElem?_eq_some_iff.1 HK1.out).1
        have HB3 := Lib.hid (put4_below HS2.out.b (Nat.le_succ _) (.int .u64 0) (.int .u64 0) (.int .u64 0) (.int .u64 0))
        have hoth : ∀ j, j ≠ w.heap.size + 1 → ((((W2.setCell ⟨w.heap.size + 1, 0, none⟩ (.int .u64 0)).setCell ⟨w.heap.size + 1, 1, none⟩ (.int .u64 0)).setCell ⟨w.heap.size + 1, 2, none⟩ (.int .u64 0)).setCell ⟨w.heap.size + 1, 3, none⟩ (.int .u64 0)).heap[j]? = W2.heap[j]? := fun j hj => by
          rw [Below.heap_setCell _ _ _ _ hj, Below.heap_setCell _ _ _ _ hj, Below.heap_setCell _ _ _ _ hj, Below.heap_setCell _ _ _ _ hj]
        have HK3 := Lib.hid ((hoth D2 (by omega)).trans hK2)
        have HK4 := Lib.hid ((hoth D (by omega)).trans ((hB2.block D hDW).trans HK1.out))
        have HR3 : Hid (((((W2.setCell ⟨w.heap.size + 1, 0, none⟩ (.int .u64 0)).setCell ⟨w.heap.size + 1, 1, none⟩ (.int .u64 0)).setCell ⟨w.heap.size + 1, 2, none⟩ (.int .u64 0)).setCell ⟨w.heap.size + 1, 3, none⟩ (.int .u64 0)).heap[w.heap.size + 1]? = some (.cells (uL (0, 0, 0, 0)) 65 (0, 0))) := put4 HS2.out.r6 (0, 0, 0, 0)
        clear hoth hK2
        gi_wp2
        generalize ((((W2.setCell ⟨w.heap.size + 1, 0, none⟩ (.int .u64 0)).setCell ⟨w.heap.size + 1, 1, none⟩ (.int .u64 0)).setCell ⟨w.heap.size + 1, 2, none⟩ (.int .u64 0)).setCell ⟨w.heap.size + 1, 3, none⟩ (.int .u64 0)) = W3 at *
        have hK5 : (W3.putObj D2 (.deferred none)).heap[D]? = some (.deferred (some [])) := (World.putObj_heap_other (by omega)).trans HK4.out
        refine ⟨by simp, .inl ⟨_, _, rfl, run_takeDeferred HK3.out, ?_⟩⟩
        refine ⟨by simp, .inl ⟨_, _, rfl, run_takeDeferred hK5, ?_⟩⟩
        refine ⟨_, results_cell_row rfl _ _ (w.heap.size + 1) 65 (uL (0, 0, 0, 0)) (0, 0) _ rfl ?_ Tryz.underlying65 rfl (by kernel_rfl), rfl, ?_⟩
        · rw [World.putObj_heap_other (by omega), World.putObj_heap_other (by omega)]; exact HR3.out
        · exact (HB3.out.trans (belowK_b (w := w) (Nat.le_refl _) W3 D2 _ _ (by omega) HK3.out rfl rfl)).trans (belowK_b (w := w) (Nat.le_refl _) _ D _ _ (by omega) hK5 rfl rfl)
end Go.Proofs.YtngaogfhijaaaaaGreat
