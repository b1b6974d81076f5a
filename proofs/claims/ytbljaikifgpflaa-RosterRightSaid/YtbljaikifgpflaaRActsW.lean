/- What is proved here: the walk of RosterActs. Its condition: the acts' accounts are ints of 64 bits. -/
import Derived.Test.YtbljaikifgpflaaRActsP
namespace Go.Proofs.Ytbljaikifgpflaa
open Go.RowKit

/-- Acts that came in. -/
structure ActsIn (w : World) (a : Option Addr) (l : List (Int × Int × Int)) : Prop where
  at0 : ∀ k x, l[k]? = some x → ∃ ad, a = some ad ∧ w.cell? ((ad.add (k * 3)).add 0) = some (.int .i64 x.1) ∧ w.cell? ((ad.add (k * 3)).add 1) = some (.int .i64 x.2.1) ∧ w.cell? ((ad.add (k * 3)).add 2) = some (.int .i64 x.2.2)
  lt : ∀ x ∈ l, x.2.1 < 9223372036854775808 ∧ x.2.2 < 9223372036854775808

theorem add_n' (a : Addr) (n : Nat) (h : n ≠ 0) : a.add n = ⟨a.block, a.off + n, none⟩ := by
  simp [Addr.add, h]

set_option maxRecDepth 100000 in
set_option maxHeartbeats 8000000 in
theorem racts_walk (w : World) (a : Option Addr) (c : Nat) (l : List (Int × Int × Int)) (h : ActsIn w a l) : Calls Try.prog 5 #[.slice a l.length c] w fun e w' => e = .returned (.bool true) ∧ Below w.heap.size w w' := by
  have HL := Lib.hid (lives21 w)
  have HN := Lib.hid (new_any w)
  by_cases h150 : 150 < l.length
  · have hd : decide ((150 : Int) < (l.length : Int)) = true := decide_eq_true (by omega)
    clear h
    generalize l.length = n at *
    go_enter Try.func5, Try.ntmps5
    go_wp2_with (go_at_call 6; refine HL.out.mono ?_; rintro e w1 ⟨rfl, h1⟩)
    go_ret
    exact ⟨rfl, h1⟩
  · have hd : decide ((150 : Int) < (l.length : Int)) = false := decide_eq_false (by omega)
    have HC : Hid (∀ wr k x, Below w.heap.size w wr → l[k]? = some x → ∃ ad, a = some ad ∧ wr.cell? (ad.add (k * 3)) = some (.int .i64 x.1) ∧ wr.cell? ⟨(ad.add (k * 3)).block, (ad.add (k * 3)).off + 1, none⟩ = some (.int .i64 x.2.1) ∧ wr.cell? ⟨(ad.add (k * 3)).block, (ad.add (k * 3)).off + 2, none⟩ = some (.int .i64 x.2.2)) := fun wr k x hb hk => by
      obtain ⟨ad, e, h0, h1, h2⟩ := h.at0 k x hk
      refine ⟨ad, e, ?_, ?_, ?_⟩
      · rw [Addr.add_zero'] at h0
        rw [hb.cell (p := ad.add (k * 3)) (World.block_lt_of_cell? w _ h0)]; exact h0
      · rw [add_n' _ 1 (by decide)] at h1
        rw [hb.cell (p := ⟨(ad.add (k * 3)).block, (ad.add (k * 3)).off + 1, none⟩) (World.block_lt_of_cell? w _ h1)]; exact h1
      · rw [add_n' _ 2 (by decide)] at h2
        rw [hb.cell (p := ⟨(ad.add (k * 3)).block, (ad.add (k * 3)).off + 2, none⟩) (World.block_lt_of_cell? w _ h2)]; exact h2
    have HLT : Hid (∀ (k : Nat) (x : Int × Int × Int), l[k]? = some x → x.2.1 < 9223372036854775808 ∧ x.2.2 < 9223372036854775808) := fun k x hk => h.lt x (List.mem_of_getElem? hk)
    have HG : Hid (∀ k, k < l.length → ∃ x, l[k]? = some x) := fun k hk => ⟨_, List.getElem?_eq_getElem hk⟩
    have HB : Hid (∀ b m k wr, RActsAt w b m k wr → Below w.heap.size w wr) := fun b m k wr ⟨_, _, _, h⟩ => h.1
    have HR : Hid (∀ b m k wr, RActsAt w b m k wr → k < 1000 → ∀ x y z : Int, y < 9223372036854775808 → z < 9223372036854775808 → RRound w b m k wr.heap.size x y z (wr.alloc (.cells #[.int .i64 x, .int .i64 y, .int .i64 z] 32)).drew) := fun b m k wr h hk x y z hy hz => rround h hk x y z hy hz
    have HD : Hid (∀ b m k wr, RActsAt w b m k wr → k < 1000 → ∃ a2 n c2, MAt m a2 n c2 wr ∧ RDone w b m a2 n c2 wr.drew) := fun b m k wr h hk => rdone h hk
    clear h
    generalize l.length = n at *
    go_enter Try.func5, Try.ntmps5
    go_wp2_with fail
    refine HN.out.mono ?_
    rintro e w1 ⟨b, L, rfl, h1, h2, h3⟩
    have H0 : Hid (RActsAt w b w1.heap.size 0 (w1.alloc (.cells #[.slice none 0 0, .slice none 0 0] 30))) := ⟨emptySt, St.Fit.empty, KeysP.empty _, (two_start h1 h2 h3).x⟩
    clear h1 h2 h3
    go_wp2_with fail
    generalize w1.heap.size = m at *
    go_loopw [16] (fun i wr => ∃ k : Nat, i = .int .i64 k ∧ k ≤ n ∧ RActsAt w b m k wr) (fun i _ => n - (intOf i).toNat)
    case atStart => exact ⟨0, rfl, by omega, H0.out⟩
    case round =>
      obtain ⟨k, rfl, hk, hA⟩ := hrel
      have HA := Lib.hid hA
      clear hA H0
      by_cases hlt : k < n
      · obtain ⟨⟨x, y, z⟩, hx⟩ := HG.out k hlt
        obtain ⟨ad, rfl, q0, q1, q2⟩ := HC.out wr k _ (HB.out _ _ _ _ HA.out) hx
        obtain ⟨hy, hz⟩ := HLT.out k _ hx
        simp only at q0 q1 q2 hy hz
        have HRO := Lib.hid (HR.out b m k wr HA.out (by omega) x y z hy hz)
        have hn0 := World.new_ne wr
        unfold RRound at HRO
        clear hx hy hz
        go_upto_region 7 with fail
        have hc0 : (wr.alloc (.cells #[.int .i64 x, .int .i64 y, .int .i64 z] 32)).cell? ⟨wr.heap.size, 0, none⟩ = some (.int .i64 x) := by rw [cell_of_row _ _ _ _ _ _ (heap_alloc_new wr _)]; rfl
        have hc1 : (wr.alloc (.cells #[.int .i64 x, .int .i64 y, .int .i64 z] 32)).cell? ⟨wr.heap.size, 1, none⟩ = some (.int .i64 y) := by rw [cell_of_row _ _ _ _ _ _ (heap_alloc_new wr _)]; rfl
        have hc2 : (wr.alloc (.cells #[.int .i64 x, .int .i64 y, .int .i64 z] 32)).cell? ⟨wr.heap.size, 2, none⟩ = some (.int .i64 z) := by rw [cell_of_row _ _ _ _ _ _ (heap_alloc_new wr _)]; rfl
        clear hn0 q0 q1 q2 HA
        generalize wr.alloc (.cells #[.int .i64 x, .int .i64 y, .int .i64 z] 32) = w0 at *
        generalize wr.heap.size = bx at *
        go_region_held3 (fun w' => w'.cell? ⟨bx, 0, none⟩ = some (.int .i64 x) ∧ w'.cell? ⟨bx, 1, none⟩ = some (.int .i64 y) ∧ w'.cell? ⟨bx, 2, none⟩ = some (.int .i64 z)) (go_keep)
          (first
            | (go_at_call 8; refine Calls.mono HRO.out ?_; rintro e v1 ⟨rfl, ⟨i1, j1, k1⟩, hS⟩; have HS1 := Lib.hid hS; clear hS)
            | (go_at_call 11; refine Calls.mono HS1.out ?_; rintro e v2 ⟨p, rfl, ⟨i2, j2, k2⟩, hS⟩; have HS2 := Lib.hid hS; clear hS)
            | (go_at_call 16; refine Calls.mono HS2.out ?_; rintro e v3 ⟨rfl, ⟨i3, j3, k3⟩, hS⟩; have HS3 := Lib.hid hS; clear hS)
            | (go_at_call 10; refine Calls.mono HS3.out ?_; rintro e v4 ⟨nn, rfl, ⟨i4, j4, k4⟩, hS⟩; have HS4 := Lib.hid hS; clear hS)
            | (go_at_call 17; refine Calls.mono HS4.out ?_; rintro e v5 ⟨rfl, ⟨i5, j5, k5⟩, hS⟩; have HS5 := Lib.hid hS; clear hS)
            | (go_at_call 12; refine Calls.mono HS5.out ?_; rintro e v6 ⟨a6, q6, c6, rfl, ⟨i6, j6, k6⟩, hS⟩; have HS6 := Lib.hid hS; clear hS)
            | (go_at_call 19; refine Calls.mono HS6.out ?_; rintro e v7 ⟨a7, c7, rfl, ⟨i7, j7, k7⟩, hS⟩; have HS7 := Lib.hid hS; clear hS)
            | (go_at_call 18; refine Calls.mono HS7.out ?_; rintro e v8 ⟨rfl, ⟨i8, j8, k8⟩, hA8⟩))
        go_wp2_with fail
        go_roundw
        case rel => exact ⟨k + 1, by go_num, by omega, hA8⟩
        case measure => simp [intOf]; omega
      · obtain rfl : k = n := by omega
        obtain ⟨a2, n2, c2, hm, hD⟩ := HD.out b m k wr HA.out (by omega)
        have HDO := Lib.hid hD
        clear hD
        unfold RDone at HDO
        go_wp2_with fail
        go_region_held3 (fun w' => w'.cell? ⟨m, 0, none⟩ = some (.slice a2 n2 c2)) (go_keep)
          (first
            | (go_at_call 9; refine Calls.mono HDO.out ?_; rintro e v1 ⟨a1, q1, c1, rfl, hm1, hS⟩; have HS1 := Lib.hid hS; clear hS)
            | (go_at_call 20; refine Calls.mono HS1.out ?_; rintro e v2 ⟨a3, c3, rfl, hm2, hS⟩; have HS2 := Lib.hid hS; clear hS)
            | (go_at_call 18; refine Calls.mono HS2.out ?_; rintro e v3 ⟨rfl, hm3, hS⟩; have HS3 := Lib.hid hS; clear hS)
            | (go_at_call 22; refine Calls.mono HS3.out ?_; rintro e v4 ⟨a4, c4, rfl, hm4, hS⟩; have HS4 := Lib.hid hS; clear hS)
            | (go_at_call 21; refine Calls.mono HS4.out ?_; rintro e v5 ⟨rfl, hm5, hS⟩; have HS5 := Lib.hid hS; clear hS)
            | (go_at_call 6; refine Calls.mono HS5.out ?_; rintro e v6 ⟨rfl, hm6, hB6⟩))
        go_wp2
        go_ret
        exact ⟨rfl, hB6⟩
end Go.Proofs.Ytbljaikifgpflaa
