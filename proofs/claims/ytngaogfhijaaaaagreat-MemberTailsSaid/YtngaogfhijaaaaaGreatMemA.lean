/- What is proved here: the member laws' act, on both stores; what the laws' loops keep. Its conditions: numbers below 2^63, sizes. -/
import Derived.Test.YtngaogfhijaaaaaGreatMemJ
namespace Go.Proofs.YtngaogfhijaaaaaGreat
open Go.RowKit

/-- What an act makes of a state. -/
def mAct (s : St) (k n o b t : Int) : Int × St := if k = 0 then mJoin s 9 n o b else mLeave s 9 n o b t
theorem mAct_fit {s : St} {f : Nat} (h : s.Fit f) (k n o b t : Int) : (mAct s k n o b t).2.Fit (f + 2) := by
  unfold mAct
  split
  · exact mJoin_fit h 9 n o b
  · exact mLeave_fit h 9 n o b t

/-- What an act keeps, if an entry of a member does. -/
theorem mAct_keeps {P : St → Prop} {s : St} (h : P s) (hP : ∀ n o v, (sThere s 9 n = true ∧ rIs s o = true ∨ mIn s 9 n o = true) → P (s.put (K24 9 n o) v)) (k n o b t : Int) : P (mAct s k n o b t).2 := by
  unfold mAct mJoin mLeave
  split
  · split
    · exact h
    · rename_i h1
      split
      · exact h
      · rename_i h2
        split
        · exact h
        · split
          · exact h
          · exact hP n o (rowB [1, 0]) (.inl ⟨by simpa using h1, by simpa using h2⟩)
  · split
    · exact h
    · rename_i h1
      split
      · exact h
      · split
        · exact h
        · exact hP n o (rowB [2, b + t]) (.inr (by simpa using h1))

set_option maxRecDepth 100000 in
set_option maxHeartbeats 8000000 in
theorem act27_any {w wr : World} {b m f : Nat} {s : St} {X : List (Nat × Obj)} (h : TwoX w b m s s X wr) (hf : s.Fit f) (hm : f < 10000000000) (hE : NoE s) (k n o p t : Int) (hn : n < 9223372036854775808) (ho : o < 9223372036854775808) :
    Calls Tryz.prog 9 #[.pointer (some ⟨b, 0, none⟩), .pointer (some ⟨m, 0, none⟩), .agg #[.int .i64 k, .int .i64 n, .int .i64 o, .int .i64 p, .int .i64 t]] wr fun e w' => e = .returned (.bool true) ∧ TwoX w b m (mAct s k n o p t).2 (mAct s k n o p t).2 X w' := by
  have hd : Below (wr.alloc (.cells #[.int .i64 k, .int .i64 n, .int .i64 o, .int .i64 p, .int .i64 t] 30)).heap.size (wr.alloc (.cells #[.int .i64 k, .int .i64 n, .int .i64 o, .int .i64 p, .int .i64 t] 30)) (wr.alloc (.cells #[.int .i64 k, .int .i64 n, .int .i64 o, .int .i64 p, .int .i64 t] 30)).drew := ⟨rfl, rfl, rfl, Nat.le_refl _, fun _ _ => rfl⟩
  have hB0 := h.box (.cells #[.int .i64 k, .int .i64 n, .int .i64 o, .int .i64 p, .int .i64 t] 30)
  have hB := hB0.below hd
  have hk0 := hB0.top 0 (v := .int .i64 k) rfl
  have hk1 := hB0.top 1 (v := .int .i64 n) rfl
  have hk2 := hB0.top 2 (v := .int .i64 o) rfl
  have hk3 := hB0.top 3 (v := .int .i64 p) rfl
  have hk4 := hB0.top 4 (v := .int .i64 t) rfl
  have hh := h
  clear h hB0 hd
  by_cases k0 : k = 0
  · have HC : Hid (Calls Tryz.prog 14 #[.pointer (some ⟨b, 0, none⟩), .int .i64 9, .int .i64 n, .int .i64 o, .int .i64 p] (wr.alloc (.cells #[.int .i64 k, .int .i64 n, .int .i64 o, .int .i64 p, .int .i64 t] 30)).drew fun e w2 => e = .returned (.int .i64 (mJoin s 9 n o p).1) ∧ (w2.cell? ⟨wr.heap.size, 1, none⟩ = some (.int .i64 n) ∧ w2.cell? ⟨wr.heap.size, 2, none⟩ = some (.int .i64 o) ∧ w2.cell? ⟨wr.heap.size, 3, none⟩ = some (.int .i64 p) ∧ w2.cell? ⟨wr.heap.size, 4, none⟩ = some (.int .i64 t)) ∧
        Calls Tryz.prog 40 #[.pointer (some ⟨m, 0, none⟩), .int .i64 9, .int .i64 n, .int .i64 o, .int .i64 p] w2 fun e w3 => e = .returned (.int .i64 (mJoin s 9 n o p).1) ∧ (w3.cell? ⟨wr.heap.size, 1, none⟩ = some (.int .i64 n) ∧ w3.cell? ⟨wr.heap.size, 2, none⟩ = some (.int .i64 o) ∧ w3.cell? ⟨wr.heap.size, 3, none⟩ = some (.int .i64 p) ∧ w3.cell? ⟨wr.heap.size, 4, none⟩ = some (.int .i64 t)) ∧ TwoX w b m (mJoin s 9 n o p).2 (mJoin s 9 n o p).2 X w3) := by
      refine (hB.prog fun L hS => mJoin_any _ b s L f 9 n o p (by decide) hn ho hS hf hm).mono fun e w2 ⟨he, h2⟩ => ⟨he, ⟨h2.top 1 rfl, h2.top 2 rfl, h2.top 3 rfl, h2.top 4 rfl⟩, ?_⟩
      exact (h2.ref fun M hR => rmJoin_any _ m s M f 9 n o p (by decide) (by decide) hn ho hR hf hm hE).mono fun e w3 ⟨he, h3⟩ => ⟨he, ⟨h3.top 1 rfl, h3.top 2 rfl, h3.top 3 rfl, h3.top 4 rfl⟩, h3.drop⟩
    have HE : Hid (mAct s k n o p t = (mJoin s 9 n o p)) := by show _ = _; unfold mAct; rw [if_pos k0]
    rw [HE.out]
    generalize (mJoin s 9 n o p).1 = r at *
    generalize (mJoin s 9 n o p).2 = s' at *
    clear hB hf hh HE
    have hb0 : (k == 0) = true := beq_iff_eq.2 k0
    clear k0
    go_enter Tryz.func9, Tryz.ntmps9
    go_wp2_with fail
    generalize wr.heap.size = bx at *
    generalize wr.alloc (.cells #[.int .i64 k, .int .i64 n, .int .i64 o, .int .i64 p, .int .i64 t] 30) = w1 at *
    go_region_held3 (fun w' => w'.cell? ⟨bx, 1, none⟩ = some (.int .i64 n) ∧ w'.cell? ⟨bx, 2, none⟩ = some (.int .i64 o) ∧ w'.cell? ⟨bx, 3, none⟩ = some (.int .i64 p) ∧ w'.cell? ⟨bx, 4, none⟩ = some (.int .i64 t)) (go_keep)
      (first
        | (go_at_call 14; refine Calls.mono HC.out ?_; rintro e w2 ⟨rfl, ⟨d1, d2, d3, d4⟩, hD⟩; have HD := Lib.hid hD; clear hD)
        | (go_at_call 40; refine Calls.mono HD.out ?_; rintro e w3 ⟨rfl, ⟨d5, d6, d7, d8⟩, hT⟩))
    go_wp2_with fail
    go_ret
    exact ⟨rfl, hT⟩
  · have HC : Hid (Calls Tryz.prog 15 #[.pointer (some ⟨b, 0, none⟩), .int .i64 9, .int .i64 n, .int .i64 o, .int .i64 p, .int .i64 t] (wr.alloc (.cells #[.int .i64 k, .int .i64 n, .int .i64 o, .int .i64 p, .int .i64 t] 30)).drew fun e w2 => e = .returned (.int .i64 (mLeave s 9 n o p t).1) ∧ (w2.cell? ⟨wr.heap.size, 1, none⟩ = some (.int .i64 n) ∧ w2.cell? ⟨wr.heap.size, 2, none⟩ = some (.int .i64 o) ∧ w2.cell? ⟨wr.heap.size, 3, none⟩ = some (.int .i64 p) ∧ w2.cell? ⟨wr.heap.size, 4, none⟩ = some (.int .i64 t)) ∧
        Calls Tryz.prog 41 #[.pointer (some ⟨m, 0, none⟩), .int .i64 9, .int .i64 n, .int .i64 o, .int .i64 p, .int .i64 t] w2 fun e w3 => e = .returned (.int .i64 (mLeave s 9 n o p t).1) ∧ (w3.cell? ⟨wr.heap.size, 1, none⟩ = some (.int .i64 n) ∧ w3.cell? ⟨wr.heap.size, 2, none⟩ = some (.int .i64 o) ∧ w3.cell? ⟨wr.heap.size, 3, none⟩ = some (.int .i64 p) ∧ w3.cell? ⟨wr.heap.size, 4, none⟩ = some (.int .i64 t)) ∧ TwoX w b m (mLeave s 9 n o p t).2 (mLeave s 9 n o p t).2 X w3) := by
      refine (hB.prog fun L hS => mLeave_any _ b s L f 9 n o p t (by decide) hn ho hS hf hm).mono fun e w2 ⟨he, h2⟩ => ⟨he, ⟨h2.top 1 rfl, h2.top 2 rfl, h2.top 3 rfl, h2.top 4 rfl⟩, ?_⟩
      exact (h2.ref fun M hR => rmLeave_any _ m s M f 9 n o p t (by decide) hn ho hR hf hm hE).mono fun e w3 ⟨he, h3⟩ => ⟨he, ⟨h3.top 1 rfl, h3.top 2 rfl, h3.top 3 rfl, h3.top 4 rfl⟩, h3.drop⟩
    have HE : Hid (mAct s k n o p t = (mLeave s 9 n o p t)) := by show _ = _; unfold mAct; rw [if_neg k0]
    rw [HE.out]
    generalize (mLeave s 9 n o p t).1 = r at *
    generalize (mLeave s 9 n o p t).2 = s' at *
    clear hB hf hh HE
    have hb0 : (k == 0) = false := beq_eq_false_iff_ne.2 k0
    clear k0
    go_enter Tryz.func9, Tryz.ntmps9
    go_wp2_with fail
    generalize wr.heap.size = bx at *
    generalize wr.alloc (.cells #[.int .i64 k, .int .i64 n, .int .i64 o, .int .i64 p, .int .i64 t] 30) = w1 at *
    go_region_held3 (fun w' => w'.cell? ⟨bx, 1, none⟩ = some (.int .i64 n) ∧ w'.cell? ⟨bx, 2, none⟩ = some (.int .i64 o) ∧ w'.cell? ⟨bx, 3, none⟩ = some (.int .i64 p) ∧ w'.cell? ⟨bx, 4, none⟩ = some (.int .i64 t)) (go_keep)
      (first
        | (go_at_call 15; refine Calls.mono HC.out ?_; rintro e w2 ⟨rfl, ⟨d1, d2, d3, d4⟩, hD⟩; have HD := Lib.hid hD; clear hD)
        | (go_at_call 41; refine Calls.mono HD.out ?_; rintro e w3 ⟨rfl, ⟨d5, d6, d7, d8⟩, hT⟩))
    go_wp2_with fail
    go_ret
    exact ⟨rfl, hT⟩
end Go.Proofs.YtngaogfhijaaaaaGreat
