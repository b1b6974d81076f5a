/- What is proved here: the member laws' world: both stores with a strategy, a service with two sets, and three operators. No condition. -/
import Derived.Test.YtngaogfhijaaaaaGreatServ6
import Derived.Test.YtngaogfhijaaaaaGreatRosterR
import Derived.Test.YtngaogfhijaaaaaGreatRRosterR
import Derived.Test.YtngaogfhijaaaaaGreatTwoX
namespace Go.Proofs.YtngaogfhijaaaaaGreat
open Go.RowKit

/-- A call on the program's store, with a box read. -/
theorem TwoX.prog2 {w w1 : World} {b m : Nat} {s t s' : St} {X : List (Nat × Obj)} {F : FuncId} {args : Array Value} {v : Value} (h : TwoX w b m s t X w1) (hc : ∀ L, SRep w1 b s L → (∀ x ∈ X, x.1 ∉ L) → Calls Tryz.prog F args w1 (RetSt w1 b L v s')) :
    Calls Tryz.prog F args w1 fun e w' => e = .returned v ∧ TwoX w b m s' t X w' := by
  have hlt := h.lt
  obtain ⟨h0, ⟨L, M, h1, h2, h3, h4, h5, hx⟩, hX⟩ := h
  refine (hc L h1 fun x hm => (hx x hm).1).mono fun e w' ⟨he, L', h6, h7⟩ => ⟨he, below_of_step h0 h3 h7, ⟨L', M, h6, h2.fr h7.fr (fun k hk hm => h5 k hm hk), fun k hk => ?_, h4, fun k hk hm => ?_, fun x hxx => ⟨fun hm => ?_, (hx x hxx).2⟩⟩, fun x hxx => ?_⟩
  · rcases h7.own k hk with h8 | h8
    · exact h3 k h8
    · exact Nat.le_trans h0.size h8
  · rcases h7.own k hk with h8 | h8
    · exact h5 k h8 hm
    · have := h2.lt k hm; omega
  · rcases h7.own _ hm with h8 | h8
    · exact (hx x hxx).1 h8
    · have := hlt x hxx; omega
  · exact (h7.fr.block _ (hlt x hxx) (hx x hxx).1).trans (hX x hxx)

/-- A call on the reference's store, with a box read. -/
theorem TwoX.ref2 {w w1 : World} {b m : Nat} {s t t' : St} {X : List (Nat × Obj)} {F : FuncId} {args : Array Value} {v : Value} (h : TwoX w b m s t X w1) (hc : ∀ M, RRep w1 m t M → (∀ x ∈ X, x.1 ∉ M) → Calls Tryz.prog F args w1 (RetR w1 m M v t')) :
    Calls Tryz.prog F args w1 fun e w' => e = .returned v ∧ TwoX w b m s t' X w' := by
  have hlt := h.lt
  obtain ⟨h0, ⟨L, M, h1, h2, h3, h4, h5, hx⟩, hX⟩ := h
  refine (hc M h2 fun x hm => (hx x hm).2).mono fun e w' ⟨he, M', h6, h7⟩ => ⟨he, below_of_step h0 h4 h7, ⟨L, M', h1.fr h7.fr (fun k hk hm => h5 k hk hm), h6, h3, fun k hk => ?_, fun k hk hm => ?_, fun x hxx => ⟨(hx x hxx).1, fun hm => ?_⟩⟩, fun x hxx => ?_⟩
  · rcases h7.own k hk with h8 | h8
    · exact h4 k h8
    · exact Nat.le_trans h0.size h8
  · rcases h7.own k hm with h8 | h8
    · exact h5 k hk h8
    · have := h1.lt k hk; omega
  · rcases h7.own _ hm with h8 | h8
    · exact (hx x hxx).2 h8
    · have := hlt x hxx; omega
  · exact (h7.fr.block _ (hlt x hxx) (hx x hxx).2).trans (hX x hxx)

/-- The world's states. -/
def m27a : St := vNew emptySt
def m27b : St := m27a.setInt (keyL 21 [9]) 1
def m27c : St := sNew m27b 9
def m27d : St := sNew m27c 9
def m27e : St := (rRegister m27d 1).2
def m27f : St := (rRegister m27e 2).2
def m27 : St := (rRegister m27f 3).2

theorem vNew_fit {s : St} {f : Nat} (h : s.Fit f) : (vNew s).Fit (f + 4) := (h.setInt _ _).put _ (by decide)
theorem sNew_fit {s : St} {f : Nat} (h : s.Fit f) (a : Int) : (sNew s a).Fit (f + 4) := (h.setInt _ _).setInt _ _
theorem f27a : m27a.Fit 4 := vNew_fit St.Fit.empty
theorem f27b : m27b.Fit 6 := f27a.setInt _ _
theorem f27c : m27c.Fit 10 := sNew_fit f27b 9
theorem f27d : m27d.Fit 14 := sNew_fit f27c 9
theorem f27e : m27e.Fit 18 := rRegister_fit f27d 1
theorem f27f : m27f.Fit 22 := rRegister_fit f27e 2
theorem f27 : m27.Fit 26 := rRegister_fit f27f 3
theorem h27_0 : emptySt.int K5 = 0 := by kernel_rfl
theorem h27_1 : sIs m27a 9 = false := by kernel_rfl
theorem h27_2 : sIs m27b 9 = true := by kernel_rfl
theorem h27_3 : numsL (m27b.val (keyL 5 [(1 : Int)])).data.toList = some [1, 1] := by kernel_rfl
theorem h27_4 : sSets m27b 9 = 0 := by kernel_rfl
theorem h27_5 : sIs m27c 9 = true := by kernel_rfl
theorem h27_6 : numsL (m27c.val (keyL 5 [(1 : Int)])).data.toList = some [1, 1] := by kernel_rfl
theorem h27_7 : sSets m27c 9 = 1 := by kernel_rfl
theorem h27_9 : isB 9 = true := by kernel_rfl

/-- A returned value, which one does not matter. -/
abbrev Ret1 (e : Ending) : Prop := ∃ v, e = .returned v

set_option maxRecDepth 100000 in
set_option maxHeartbeats 4000000 in
theorem world27_any (w : World) : Calls Tryz.prog 8 #[] w fun e w' => ∃ b m, e = .returned (.tuple #[.pointer (some ⟨b, 0, none⟩), .pointer (some ⟨m, 0, none⟩)]) ∧ TwoX w b m m27 m27 [] w' := by
  have HN : Hid (Calls Tryz.prog 31 #[] w fun e w1 => ∃ b, e = .returned (.pointer (some ⟨b, 0, none⟩)) ∧ ∀ m, m = w1.heap.size →
      Calls Tryz.prog 32 #[.pointer (some ⟨b, 0, none⟩), .int .i64 1] (w1.alloc (.cells #[.slice none 0 0, .slice none 0 0] 59)) fun e w2 => Ret1 e ∧
      Calls Tryz.prog 33 #[.pointer (some ⟨m, 0, none⟩), .int .i64 1] w2 fun e w3 => Ret1 e ∧
      Calls Tryz.prog 34 #[.pointer (some ⟨b, 0, none⟩), .int .i64 9] w3 fun e w4 => Ret1 e ∧
      Calls Tryz.prog 35 #[.pointer (some ⟨m, 0, none⟩), .int .i64 9] w4 fun e w5 => Ret1 e ∧
      Calls Tryz.prog 36 #[.pointer (some ⟨b, 0, none⟩), .int .i64 9, .slice (some ⟨w5.heap.size, 0, none⟩) 1 1] (w5.alloc (.cells #[.int .i64 1] 3)) fun e w6 => Ret1 e ∧
      Calls Tryz.prog 37 #[.pointer (some ⟨m, 0, none⟩), .int .i64 9, .slice (some ⟨w6.heap.size, 0, none⟩) 1 1] (w6.alloc (.cells #[.int .i64 1] 3)) fun e w7 => Ret1 e ∧
      Calls Tryz.prog 36 #[.pointer (some ⟨b, 0, none⟩), .int .i64 9, .slice (some ⟨w7.heap.size, 0, none⟩) 1 1] (w7.alloc (.cells #[.int .i64 1] 3)) fun e w8 => Ret1 e ∧
      Calls Tryz.prog 37 #[.pointer (some ⟨m, 0, none⟩), .int .i64 9, .slice (some ⟨w8.heap.size, 0, none⟩) 1 1] (w8.alloc (.cells #[.int .i64 1] 3)) fun e w9 => Ret1 e ∧
      Calls Tryz.prog 38 #[.pointer (some ⟨b, 0, none⟩), .int .i64 1] w9 fun e w10 => Ret1 e ∧
      Calls Tryz.prog 39 #[.pointer (some ⟨m, 0, none⟩), .int .i64 1] w10 fun e w11 => Ret1 e ∧
      Calls Tryz.prog 38 #[.pointer (some ⟨b, 0, none⟩), .int .i64 2] w11 fun e w12 => Ret1 e ∧
      Calls Tryz.prog 39 #[.pointer (some ⟨m, 0, none⟩), .int .i64 2] w12 fun e w13 => Ret1 e ∧
      Calls Tryz.prog 38 #[.pointer (some ⟨b, 0, none⟩), .int .i64 3] w13 fun e w14 => Ret1 e ∧
      Calls Tryz.prog 39 #[.pointer (some ⟨m, 0, none⟩), .int .i64 3] w14 fun e w15 => Ret1 e ∧ TwoX w b m m27 m27 [] w15) := by
    refine (new_any w).mono fun e w1 ⟨b, L, he, h1, h2, h3⟩ => ⟨b, he, fun m hm => ?_⟩
    subst hm
    have T1 := (two_start h1 h2 h3).x
    refine (T1.prog fun L hS => vnew_any _ b _ L 0 hS St.Fit.empty (by decide) (by rw [h27_0]; decide)).mono fun e w2 ⟨he, T2⟩ => ⟨⟨_, he⟩, ?_⟩
    refine (T2.ref fun M hR => rvnew_any _ _ _ M 0 hR St.Fit.empty (by decide) (by rw [h27_0]; decide)).mono fun e w3 ⟨he, T3⟩ => ⟨⟨_, he⟩, ?_⟩
    refine (T3.prog fun L hS => sreg_any _ b m27a L 4 9 (by decide) hS f27a (by decide) h27_9 h27_1).mono fun e w4 ⟨he, T4⟩ => ⟨⟨_, he⟩, ?_⟩
    refine (T4.ref fun M hR => rsreg_any _ _ m27a M 4 9 (by decide) hR f27a (by decide) h27_9 h27_1).mono fun e w5 ⟨he, T5⟩ => ⟨⟨_, he⟩, ?_⟩
    have B5 := T5.box (.cells #[.int .i64 1] 3)
    refine (B5.prog2 fun L hS hx => snew_any _ b m27b L 6 9 _ 1 1 1 (by decide) hS f27b (by decide) h27_2 h27_3 (by rw [h27_4]; decide) (B5.top 0 rfl) (hx _ (List.mem_cons.2 (.inl rfl)))).mono fun e w6 ⟨he, T6⟩ => ⟨⟨_, he⟩, ?_⟩
    have B6 := T6.drop.box (.cells #[.int .i64 1] 3)
    refine (B6.ref2 fun M hR hx => rsnew_any _ _ m27b M 6 9 _ 1 1 1 (by decide) hR f27b (by decide) h27_2 h27_3 (by rw [h27_4]; decide) (B6.top 0 rfl) (hx _ (List.mem_cons.2 (.inl rfl)))).mono fun e w7 ⟨he, T7⟩ => ⟨⟨_, he⟩, ?_⟩
    have B7 := T7.drop.box (.cells #[.int .i64 1] 3)
    refine (B7.prog2 fun L hS hx => snew_any _ b m27c L 10 9 _ 1 1 1 (by decide) hS f27c (by decide) h27_5 h27_6 (by rw [h27_7]; decide) (B7.top 0 rfl) (hx _ (List.mem_cons.2 (.inl rfl)))).mono fun e w8 ⟨he, T8⟩ => ⟨⟨_, he⟩, ?_⟩
    have B8 := T8.drop.box (.cells #[.int .i64 1] 3)
    refine (B8.ref2 fun M hR hx => rsnew_any _ _ m27c M 10 9 _ 1 1 1 (by decide) hR f27c (by decide) h27_5 h27_6 (by rw [h27_7]; decide) (B8.top 0 rfl) (hx _ (List.mem_cons.2 (.inl rfl)))).mono fun e w9 ⟨he, T9⟩ => ⟨⟨_, he⟩, ?_⟩
    have T9' := T9.drop
    refine (T9'.prog fun L hS => register_any _ b m27d L 14 1 (by decide) hS f27d (by decide)).mono fun e w10 ⟨he, T10⟩ => ⟨⟨_, he⟩, ?_⟩
    refine (T10.ref fun M hR => rregister_any _ _ m27d M 14 1 (by decide) hR f27d (by decide)).mono fun e w11 ⟨he, T11⟩ => ⟨⟨_, he⟩, ?_⟩
    refine (T11.prog fun L hS => register_any _ b m27e L 18 2 (by decide) hS f27e (by decide)).mono fun e w12 ⟨he, T12⟩ => ⟨⟨_, he⟩, ?_⟩
    refine (T12.ref fun M hR => rregister_any _ _ m27e M 18 2 (by decide) hR f27e (by decide)).mono fun e w13 ⟨he, T13⟩ => ⟨⟨_, he⟩, ?_⟩
    refine (T13.prog fun L hS => register_any _ b m27f L 22 3 (by decide) hS f27f (by decide)).mono fun e w14 ⟨he, T14⟩ => ⟨⟨_, he⟩, ?_⟩
    exact (T14.ref fun M hR => rregister_any _ _ m27f M 22 3 (by decide) hR f27f (by decide)).mono fun e w15 ⟨he, T15⟩ => ⟨⟨_, he⟩, T15⟩
  go_enter Tryz.func8, Tryz.ntmps8
  go_wp2_with fail
  refine HN.out.mono ?_
  rintro e w1 ⟨b, rfl, hC⟩
  have H1 := Lib.hid (hC _ rfl)
  clear hC HN
  go_wp2_with fail
  refine H1.out.mono ?_
  rintro e w2 ⟨⟨r2, rfl⟩, hC⟩
  have H2 := Lib.hid hC
  clear hC H1
  go_wp2_with fail
  refine H2.out.mono ?_
  rintro e w3 ⟨⟨r3, rfl⟩, hC⟩
  have H3 := Lib.hid hC
  clear hC H2
  go_wp2_with fail
  refine H3.out.mono ?_
  rintro e w4 ⟨⟨r4, rfl⟩, hC⟩
  have H4 := Lib.hid hC
  clear hC H3
  go_wp2_with fail
  refine H4.out.mono ?_
  rintro e w5 ⟨⟨r5, rfl⟩, hC⟩
  have H5 := Lib.hid hC
  clear hC H4
  go_wp2_with fail
  refine wp_loop_rounds 3 ?_
  rw [rounds_succ]
  go_wp2_with fail
  refine H5.out.mono ?_
  rintro e w6 ⟨⟨r6, rfl⟩, hC⟩
  have H6 := Lib.hid hC
  clear hC H5
  go_wp2_with fail
  refine H6.out.mono ?_
  rintro e w7 ⟨⟨r7, rfl⟩, hC⟩
  have H7 := Lib.hid hC
  clear hC H6
  go_wp2_with fail
  rw [rounds_succ]
  go_wp2_with fail
  refine H7.out.mono ?_
  rintro e w8 ⟨⟨r8, rfl⟩, hC⟩
  have H8 := Lib.hid hC
  clear hC H7
  go_wp2_with fail
  refine H8.out.mono ?_
  rintro e w9 ⟨⟨r9, rfl⟩, hC⟩
  have H9 := Lib.hid hC
  clear hC H8
  go_wp2_with fail
  rw [rounds_succ]
  go_wp2_with fail
  refine wp_loop_rounds 4 ?_
  rw [rounds_succ]
  go_wp2_with fail
  refine H9.out.mono ?_
  rintro e w10 ⟨⟨r10, rfl⟩, hC⟩
  have H10 := Lib.hid hC
  clear hC H9
  go_wp2_with fail
  refine H10.out.mono ?_
  rintro e w11 ⟨⟨r11, rfl⟩, hC⟩
  have H11 := Lib.hid hC
  clear hC H10
  go_wp2_with fail
  rw [rounds_succ]
  go_wp2_with fail
  refine H11.out.mono ?_
  rintro e w12 ⟨⟨r12, rfl⟩, hC⟩
  have H12 := Lib.hid hC
  clear hC H11
  go_wp2_with fail
  refine H12.out.mono ?_
  rintro e w13 ⟨⟨r13, rfl⟩, hC⟩
  have H13 := Lib.hid hC
  clear hC H12
  go_wp2_with fail
  rw [rounds_succ]
  go_wp2_with fail
  refine H13.out.mono ?_
  rintro e w14 ⟨⟨r14, rfl⟩, hC⟩
  have H14 := Lib.hid hC
  clear hC H13
  go_wp2_with fail
  refine H14.out.mono ?_
  rintro e w15 ⟨⟨r15, rfl⟩, hT⟩
  have HT := Lib.hid hT
  clear hT H14
  go_wp2_with fail
  rw [rounds_succ]
  go_wp2_with fail
  refine bodyPost_ret (results_tmp2 rfl _ _ _) rfl ?_
  exact ⟨_, _, rfl, HT.out⟩
end Go.Proofs.YtngaogfhijaaaaaGreat
