/- What is proved here: one strategy rises; it is known, so none is unknown. Their conditions: it is there; sizes. -/
import Derived.Test.YtnblhjndngpbnaaGreatServ3
namespace Go.Proofs.YtnblhjndngpbnaaGreat
open Go.RowKit

set_option maxRecDepth 100000 in
set_option maxHeartbeats 2000000 in
theorem rise_one (w : World) (g c : Nat) : Calls Tryz.prog 21 #[.slice (some ⟨g, 0, none⟩) 1 c] w fun e w' => e = .returned (.bool true) ∧ Below w.heap.size w w' := by
  have hB : Hid (∀ q, Below w.heap.size w (w.drewN q)) := fun q => below_drewN (Below.refl _ w) q
  go_enter Tryz.func21, Tryz.ntmps21
  go_wp2_with fail
  refine wp_loop_rounds 2 ?_
  rw [rounds_succ]
  go_wp2_with fail
  go_quiet (fail)
  go_wp2
  rw [rounds_succ]
  go_wp2
  go_ret
  exact ⟨rfl, hB.out _⟩

set_option maxRecDepth 100000 in
set_option maxHeartbeats 2000000 in
theorem rrise_one (w : World) (g c : Nat) : Calls Tryz.prog 22 #[.slice (some ⟨g, 0, none⟩) 1 c] w fun e w' => e = .returned (.bool true) ∧ w = w' := by
  go_enter Tryz.func22, Tryz.ntmps22
  go_wp2_with fail
  refine wp_loop_rounds 1 ?_
  rw [rounds_succ]
  go_wp2
  go_ret
  exact ⟨rfl, rfl⟩

set_option maxRecDepth 100000 in
set_option maxHeartbeats 2000000 in
theorem unknown_any (w : World) (b : Nat) (s : St) (L : List Nat) (f : Nat) (n : Int) (x y : Nat) (p : Nat) (hn : n < 9223372036854775808) (h : SRep w b s L) (hf : s.Fit f) (hr : numsL (s.val (keyL 5 [(n : Int)])).data.toList = some [x, y]) (hp : w.cell? ⟨p, 0, none⟩ = some (.pointer (some ⟨b, 0, none⟩))) :
    Calls Tryz.prog 55 #[.int .i64 n, .pointer (some ⟨p, 0, none⟩)] w fun e w' => e = .returned (.bool false) ∧ Below w.heap.size w w' := by
  have HO := Lib.hid (known_any w b s L f n x y hn h hf hr)
  clear h hf hr
  go_enter Tryz.func55, Tryz.ntmps55
  go_wp2_with (go_at_call 56; refine HO.out.mono ?_; rintro e w1 ⟨rfl, hb1⟩)
  go_ret
  exact ⟨rfl, hb1⟩

set_option maxRecDepth 100000 in
set_option maxHeartbeats 2000000 in
theorem containsF_any (w : World) (b : Nat) (s : St) (L : List Nat) (f : Nat) (n : Int) (x y : Nat) (p g c : Nat) (hn : n < 9223372036854775808) (h : SRep w b s L) (hf : s.Fit f) (hr : numsL (s.val (keyL 5 [(n : Int)])).data.toList = some [x, y]) (hp : w.cell? ⟨p, 0, none⟩ = some (.pointer (some ⟨b, 0, none⟩))) (hc : w.cell? ⟨g, 0, none⟩ = some (.int .i64 n)) :
    Calls Tryz.prog 54 #[.slice (some ⟨g, 0, none⟩) 1 c, .func (.func 55) #[] #[.pointer (some ⟨p, 0, none⟩)]] w fun e w' => e = .returned (.bool false) ∧ Below w.heap.size w w' := by
  have HU := Lib.hid (unknown_any w b s L f n x y p hn h hf hr hp)
  have HI : Hid (Calls Tryz.prog 84 #[.slice (some ⟨g, 0, none⟩) 1 c, .func (.func 55) #[] #[.pointer (some ⟨p, 0, none⟩)]] w fun e w' => e = .returned (.int .i64 (-1)) ∧ Below w.heap.size w w') := by
    clear h hf hr hp
    go_enter Tryz.func84, Tryz.ntmps84
    go_wp2_with fail
    refine wp_loop_rounds 2 ?_
    rw [rounds_succ]
    go_wp2_with (go_at_call 55; refine HU.out.mono ?_; rintro e w1 ⟨rfl, hb1⟩)
    rw [rounds_succ]
    go_wp2_with fail
    go_ret
    exact ⟨rfl, hb1⟩
  clear h hf hr hp hc HU
  go_enter Tryz.func54, Tryz.ntmps54
  go_wp2_with (go_at_call 84; refine HI.out.mono ?_; rintro e w1 ⟨rfl, hb1⟩)
  go_ret
  exact ⟨rfl, hb1⟩
end Go.Proofs.YtnblhjndngpbnaaGreat
