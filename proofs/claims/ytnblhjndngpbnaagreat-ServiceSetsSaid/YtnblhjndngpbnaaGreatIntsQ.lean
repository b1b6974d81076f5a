/- What is proved here: the reference's Ints at two slices of the same numbers: true. Its condition: fewer than 10^12. -/
import Derived.Test.YtnblhjndngpbnaaGreatRUnder
import Derived.Test.YtnblhjndngpbnaaGreatKpR
namespace Go.Proofs.YtnblhjndngpbnaaGreat
open Go.RowKit

/-- Ints in the making. -/
def IntsOut (w2 : World) (f : List Int) (v : Value) (wr : World) : Prop := Own wr 3 1 v f.length (f.map fun n => Value.int .i64 n) ∧ (∀ g, v.ownBlock = some g → w2.heap.size ≤ g) ∧ Below w2.heap.size w2 wr

theorem IntsOut.below {w2 wr w' : World} {f : List Int} {v : Value} (h : IntsOut w2 f v wr) (hb : Below wr.heap.size wr w') : IntsOut w2 f v w' :=
  ⟨h.1.frame fun k hk => hb.block k (h.1.lt k hk), h.2.1, h.2.2.trans (hb.mono h.2.2.size)⟩

theorem IntsOut.push {w2 w3 w' : World} {f : List Int} {v v' : Value} (h : IntsOut w2 f v w3) {o : Obj} {n : Int} (hA : Appended (w3.alloc o) 3 1 v f.length 1 (f.map fun n => Value.int .i64 n) [.int .i64 n] v' w') : IntsOut w2 (f ++ [n]) v' w' := by
  have h0 := h.below ((Below.refl _ w3).alloc (Nat.le_refl _) o)
  refine ⟨by rw [List.map_append, List.length_append]; exact hA.own, fun g hg => ?_, h0.2.2.grown hA.grown h0.2.2.size h0.2.1⟩
  rcases hA.block g hg with h1 | h1
  · exact h0.2.1 g h1
  · exact Nat.le_trans h0.2.2.size h1

theorem IntsOut.form {w2 wr : World} {f : List Int} {v : Value} (h : IntsOut w2 f v wr) : ∃ a c, v = .slice a f.length c := by
  obtain ⟨a, c, e, _⟩ := h.1.form
  exact ⟨a, c, e⟩

/-- Ints as the walk reads them. -/
structure IntsLie (w : World) (a : Option Addr) (l : List Int) : Prop where
  at0 : ∀ k x, l[k]? = some x → ∃ g, a = some ⟨g, 0, none⟩ ∧ w.cell? ⟨g, k, none⟩ = some (.int .i64 x)

theorem IntsLie.below {w w' : World} {a : Option Addr} {l : List Int} (h : IntsLie w a l) (hb : Below w.heap.size w w') : IntsLie w' a l :=
  ⟨fun k x hk => by
    obtain ⟨g, h1, h2⟩ := h.at0 k x hk
    exact ⟨g, h1, by rw [hb.cell (p := ⟨g, k, none⟩) (World.block_lt_of_cell? w _ h2)]; exact h2⟩⟩

theorem Own.nums {w : World} {v : Value} {l : List Int} (h : Own w 3 1 v l.length (l.map fun n => Value.int .i64 n)) : ∃ a c, v = .slice a l.length c ∧ IntsLie w a l := by
  obtain ⟨a, c, rfl, hc⟩ := h.form
  refine ⟨a, c, rfl, ⟨fun k x hk => ?_⟩⟩
  exact hc k _ (by rw [List.getElem?_map, hk]; rfl)

theorem row_own {w : World} {b e : Nat} {size : Nat} {v : Value} {n : Nat} {xs : List Value} (h : w.ownsRow b e size v n xs) : Own w e size v n xs := by
  refine ⟨h.1, ?_⟩
  rcases h.2 with h0 | ⟨g, cap, cur, h1, _, h3, h4, h5, h6, h7⟩
  · exact .inl h0
  · exact .inr ⟨g, cap, cur, h1, h3, h4, h5, by omega, h7⟩

set_option maxRecDepth 100000 in
set_option maxHeartbeats 2000000 in
theorem ints_same (w : World) (a1 a2 : Option Addr) (c1 c2 : Nat) (l : List Int) (h1 : IntsLie w a1 l) (h2 : IntsLie w a2 l) (hl : l.length < 1000000000000) :
    Calls Tryz.prog 19 #[.slice a1 l.length c1, .slice a2 l.length c2] w fun e w' => e = .returned (.bool true) ∧ Below w.heap.size w w' := by
  have hne : (((l.length : Int)) != (l.length : Int)) = false := by simp
  have H1 := Lib.hid (fun (q : Nat) => (h1.below (below_drewN (Below.refl _ w) q)).at0)
  have H2 := Lib.hid (fun (q : Nat) => (h2.below (below_drewN (Below.refl _ w) q)).at0)
  have HG : Hid (∀ k, k < l.length → ∃ x, l[k]? = some x) := fun k hk => ⟨_, List.getElem?_eq_getElem hk⟩
  clear h1 h2
  generalize l.length = n at *
  go_enter Tryz.func19, Tryz.ntmps19
  go_wp2_with fail
  go_loopw [13] (fun i wr => ∃ k q : Nat, i = .int .i64 k ∧ k ≤ n ∧ w.drewN q = wr) (fun i _ => n - (intOf i).toNat)
  case atStart => exact ⟨0, 0, rfl, by omega, rfl⟩
  case round =>
    obtain ⟨k, q, rfl, hk, hw⟩ := hrel
    by_cases hlt : k < n
    · obtain ⟨x, hx⟩ := HG.out k hlt
      obtain ⟨g1, rfl, e1⟩ := H1.out q k x hx
      obtain ⟨g2, rfl, e2⟩ := H2.out q k x hx
      rw [hw] at e1 e2
      have HWE := Lib.hid hw
      have hk0 : (0 : Int) ≤ (k : Int) := Int.natCast_nonneg _
      have hk1 : (k : Int) < (n : Int) := by omega
      have hxx : (x != x) = false := by simp
      clear hx hw H1 H2
      go_wp2_with fail
      go_quiet (fail)
      go_wp2
      go_roundw
      case rel => exact ⟨k + 1, q + _, by go_num, by omega, by rw [← HWE.out, World.drewN_drewN]⟩
      case measure => simp [intOf]; omega
    · obtain rfl : k = n := by omega
      go_wp2
      go_ret
      exact ⟨rfl, by rw [← hw]; exact below_drewN (Below.refl _ w) q⟩
end Go.Proofs.YtnblhjndngpbnaaGreat
