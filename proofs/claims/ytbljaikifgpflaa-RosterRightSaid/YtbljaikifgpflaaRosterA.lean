/- What is proved here: the roster's laws' act, on both stores. Its conditions: numbers below 2^63, sizes. -/
import Derived.Test.YtbljaikifgpflaaTwoX
import Derived.Test.YtbljaikifgpflaaRoster2
import Derived.Test.YtbljaikifgpflaaRRoster
namespace Go.Proofs.Ytbljaikifgpflaa
open Go.RowKit

/-- What an act makes of a state. -/
def rAct (s : St) (k y z : Int) : St := if k = 0 then (rRegister s y).2 else if k = 1 then (rChoose s y z).2 else (rLeave s y).2
theorem rAct_fit {s : St} {m : Nat} (h : s.Fit m) (k y z : Int) : (rAct s k y z).Fit (m + 4) := by
  unfold rAct
  split
  · exact rRegister_fit h y
  · split
    · exact rChoose_fit h y z
    · exact rLeave_fit h y
theorem rAct_keys {P : ByteArray → Prop} {s : St} (h : KeysP P s) (h8 : ∀ a, P (K8 a)) (h9 : ∀ a, P (K9 a)) (k y z : Int) : KeysP P (rAct s k y z) := by
  unfold rAct rRegister rChoose rLeave
  repeat' split
  all_goals first | exact h | exact (h.setInt (h8 _) _).setInt (h9 _) _ | exact h.setInt (h9 _) _ | exact h.del _

set_option maxRecDepth 100000 in
set_option maxHeartbeats 4000000 in
theorem act21_any {w wr : World} {b m f : Nat} {s : St} {X : List (Nat × Obj)} (h : TwoX w b m s s X wr) (hf : s.Fit f) (hm : f < 10000000000) (k y z : Int) (hy : y < 9223372036854775808) (hz : z < 9223372036854775808) :
    Calls Try.prog 8 #[.pointer (some ⟨b, 0, none⟩), .pointer (some ⟨m, 0, none⟩), .agg #[.int .i64 k, .int .i64 y, .int .i64 z]] wr fun e w' => e = .returned (.bool true) ∧ TwoX w b m (rAct s k y z) (rAct s k y z) X w' := by
  have hd : Below (wr.alloc (.cells #[.int .i64 k, .int .i64 y, .int .i64 z] 32)).heap.size (wr.alloc (.cells #[.int .i64 k, .int .i64 y, .int .i64 z] 32)) (wr.alloc (.cells #[.int .i64 k, .int .i64 y, .int .i64 z] 32)).drew := ⟨rfl, rfl, rfl, Nat.le_refl _, fun _ _ => rfl⟩
  have hB0 := h.box (.cells #[.int .i64 k, .int .i64 y, .int .i64 z] 32)
  have hB := hB0.below hd
  have hm' : f < 100000000000 := by omega
  have hk0 := hB0.top 0 (v := .int .i64 k) rfl
  have hk1 := hB0.top 1 (v := .int .i64 y) rfl
  have hk2 := hB0.top 2 (v := .int .i64 z) rfl
  have hh := h
  clear h hB0 hd
  by_cases k0 : k = 0
  · have HC : Hid (Calls Try.prog 13 #[.pointer (some ⟨b, 0, none⟩), .int .i64 y] (wr.alloc (.cells #[.int .i64 k, .int .i64 y, .int .i64 z] 32)).drew fun e w2 => e = .returned (.int .i64 (rRegister s y).1) ∧ (w2.cell? ⟨wr.heap.size, 1, none⟩ = some (.int .i64 y) ∧ w2.cell? ⟨wr.heap.size, 2, none⟩ = some (.int .i64 z)) ∧
        Calls Try.prog 23 #[.pointer (some ⟨m, 0, none⟩), .int .i64 y] w2 fun e w3 => e = .returned (.int .i64 (rRegister s y).1) ∧ (w3.cell? ⟨wr.heap.size, 1, none⟩ = some (.int .i64 y) ∧ w3.cell? ⟨wr.heap.size, 2, none⟩ = some (.int .i64 z)) ∧ TwoX w b m (rRegister s y).2 (rRegister s y).2 X w3) := by
      refine (hB.prog fun L hS => register_any _ b s L f y hy hS hf hm').mono fun e w2 ⟨he, h2⟩ => ⟨he, ⟨h2.top 1 rfl, h2.top 2 rfl⟩, ?_⟩
      exact (h2.ref fun M hR => rregister_any _ m s M f y hy hR hf hm').mono fun e w3 ⟨he, h3⟩ => ⟨he, ⟨h3.top 1 rfl, h3.top 2 rfl⟩, h3.drop⟩
    have HE : Hid (rAct s k y z = (rRegister s y).2) := by show _ = _; unfold rAct; rw [if_pos k0]
    generalize (rRegister s y).1 = r at *
    generalize (rRegister s y).2 = s' at *
    clear hB hf hh
    have hb0 : (k == 0) = true := beq_iff_eq.2 k0
    clear k0
    go_enter Try.func8, Try.ntmps8
    go_wp2_with fail
    generalize wr.heap.size = bx at *
    generalize wr.alloc (.cells #[.int .i64 k, .int .i64 y, .int .i64 z] 32) = w1 at *
    go_region_held3 (fun w' => w'.cell? ⟨bx, 1, none⟩ = some (.int .i64 y) ∧ w'.cell? ⟨bx, 2, none⟩ = some (.int .i64 z)) (go_keep)
      (first
        | (go_at_call 13; refine Calls.mono HC.out ?_; rintro e w2 ⟨rfl, ⟨d1, d2⟩, hD⟩; have HD := Lib.hid hD; clear hD)
        | (go_at_call 23; refine Calls.mono HD.out ?_; rintro e w3 ⟨rfl, ⟨d3, d4⟩, hT⟩))
    go_wp2_with fail
    go_ret
    rw [HE.out]
    exact ⟨rfl, hT⟩
  by_cases k1 : k = 1
  · have HC : Hid (Calls Try.prog 14 #[.pointer (some ⟨b, 0, none⟩), .int .i64 y, .int .i64 z] (wr.alloc (.cells #[.int .i64 k, .int .i64 y, .int .i64 z] 32)).drew fun e w2 => e = .returned (.int .i64 (rChoose s y z).1) ∧ (w2.cell? ⟨wr.heap.size, 1, none⟩ = some (.int .i64 y) ∧ w2.cell? ⟨wr.heap.size, 2, none⟩ = some (.int .i64 z)) ∧
        Calls Try.prog 24 #[.pointer (some ⟨m, 0, none⟩), .int .i64 y, .int .i64 z] w2 fun e w3 => e = .returned (.int .i64 (rChoose s y z).1) ∧ (w3.cell? ⟨wr.heap.size, 1, none⟩ = some (.int .i64 y) ∧ w3.cell? ⟨wr.heap.size, 2, none⟩ = some (.int .i64 z)) ∧ TwoX w b m (rChoose s y z).2 (rChoose s y z).2 X w3) := by
      refine (hB.prog fun L hS => choose_any _ b s L f y z hy hz hS hf hm').mono fun e w2 ⟨he, h2⟩ => ⟨he, ⟨h2.top 1 rfl, h2.top 2 rfl⟩, ?_⟩
      exact (h2.ref fun M hR => rchoose_any _ m s M f y z hy hz hR hf hm').mono fun e w3 ⟨he, h3⟩ => ⟨he, ⟨h3.top 1 rfl, h3.top 2 rfl⟩, h3.drop⟩
    have HE : Hid (rAct s k y z = (rChoose s y z).2) := by show _ = _; unfold rAct; rw [if_neg k0, if_pos k1]
    generalize (rChoose s y z).1 = r at *
    generalize (rChoose s y z).2 = s' at *
    clear hB hf hh
    have hb0 : (k == 0) = false := beq_eq_false_iff_ne.2 k0
    have hb1 : (k == 1) = true := beq_iff_eq.2 k1
    clear k0 k1
    go_enter Try.func8, Try.ntmps8
    go_wp2_with fail
    generalize wr.heap.size = bx at *
    generalize wr.alloc (.cells #[.int .i64 k, .int .i64 y, .int .i64 z] 32) = w1 at *
    go_region_held3 (fun w' => w'.cell? ⟨bx, 1, none⟩ = some (.int .i64 y) ∧ w'.cell? ⟨bx, 2, none⟩ = some (.int .i64 z)) (go_keep)
      (first
        | (go_at_call 14; refine Calls.mono HC.out ?_; rintro e w2 ⟨rfl, ⟨d1, d2⟩, hD⟩; have HD := Lib.hid hD; clear hD)
        | (go_at_call 24; refine Calls.mono HD.out ?_; rintro e w3 ⟨rfl, ⟨d3, d4⟩, hT⟩))
    go_wp2_with fail
    go_ret
    rw [HE.out]
    exact ⟨rfl, hT⟩
  · have HC : Hid (Calls Try.prog 15 #[.pointer (some ⟨b, 0, none⟩), .int .i64 y] (wr.alloc (.cells #[.int .i64 k, .int .i64 y, .int .i64 z] 32)).drew fun e w2 => e = .returned (.int .i64 (rLeave s y).1) ∧ (w2.cell? ⟨wr.heap.size, 1, none⟩ = some (.int .i64 y) ∧ w2.cell? ⟨wr.heap.size, 2, none⟩ = some (.int .i64 z)) ∧
        Calls Try.prog 25 #[.pointer (some ⟨m, 0, none⟩), .int .i64 y] w2 fun e w3 => e = .returned (.int .i64 (rLeave s y).1) ∧ (w3.cell? ⟨wr.heap.size, 1, none⟩ = some (.int .i64 y) ∧ w3.cell? ⟨wr.heap.size, 2, none⟩ = some (.int .i64 z)) ∧ TwoX w b m (rLeave s y).2 (rLeave s y).2 X w3) := by
      refine (hB.prog fun L hS => leaveR_any _ b s L f y hy hS hf hm').mono fun e w2 ⟨he, h2⟩ => ⟨he, ⟨h2.top 1 rfl, h2.top 2 rfl⟩, ?_⟩
      exact (h2.ref fun M hR => rleaveR_any _ m s M f y hy hR hf hm').mono fun e w3 ⟨he, h3⟩ => ⟨he, ⟨h3.top 1 rfl, h3.top 2 rfl⟩, h3.drop⟩
    have HE : Hid (rAct s k y z = (rLeave s y).2) := by show _ = _; unfold rAct; rw [if_neg k0, if_neg k1]
    generalize (rLeave s y).1 = r at *
    generalize (rLeave s y).2 = s' at *
    clear hB hf hh
    have hb0 : (k == 0) = false := beq_eq_false_iff_ne.2 k0
    have hb1 : (k == 1) = false := beq_eq_false_iff_ne.2 k1
    clear k0 k1
    go_enter Try.func8, Try.ntmps8
    go_wp2_with fail
    generalize wr.heap.size = bx at *
    generalize wr.alloc (.cells #[.int .i64 k, .int .i64 y, .int .i64 z] 32) = w1 at *
    go_region_held3 (fun w' => w'.cell? ⟨bx, 1, none⟩ = some (.int .i64 y) ∧ w'.cell? ⟨bx, 2, none⟩ = some (.int .i64 z)) (go_keep)
      (first
        | (go_at_call 15; refine Calls.mono HC.out ?_; rintro e w2 ⟨rfl, ⟨d1, d2⟩, hD⟩; have HD := Lib.hid hD; clear hD)
        | (go_at_call 25; refine Calls.mono HD.out ?_; rintro e w3 ⟨rfl, ⟨d3, d4⟩, hT⟩))
    go_wp2_with fail
    go_ret
    rw [HE.out]
    exact ⟨rfl, hT⟩
end Go.Proofs.Ytbljaikifgpflaa
