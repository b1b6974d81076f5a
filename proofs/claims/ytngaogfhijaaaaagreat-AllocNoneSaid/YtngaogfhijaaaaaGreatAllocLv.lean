/- What is proved here: the alloc law's own example, played. No condition. -/
import Derived.Test.YtngaogfhijaaaaaGreatAllocL
namespace Go.Proofs.YtngaogfhijaaaaaGreat
open Go.RowKit

/-- The example's boxes, where they are read. -/
abbrev LvC (H : Nat) (w' : World) : Prop := (w'.cell? ⟨H, 0, none⟩ = some (.int .u64 500000000000000000) ∧ w'.cell? ⟨H, 1, none⟩ = some (.int .u64 0) ∧ w'.cell? ⟨H, 2, none⟩ = some (.int .u64 0) ∧ w'.cell? ⟨H, 3, none⟩ = some (.int .u64 0)) ∧ (w'.cell? ⟨H + 1, 0, none⟩ = some (.int .i64 7) ∧ w'.cell? ⟨H + 1, 1, none⟩ = some (.int .i64 1) ∧ w'.cell? ⟨H + 1, 2, none⟩ = some (.int .i64 9) ∧ w'.cell? ⟨H + 1, 3, none⟩ = some (.int .i64 0))

set_option maxRecDepth 100000 in
set_option maxHeartbeats 4000000 in
theorem lives29 (w : World) : Calls Tryz.prog 30 #[] w fun e w' => e = .returned (.bool true) ∧ Below w.heap.size w w' := by
  have HN : Hid (Calls Tryz.prog 31 #[] w fun e w1 => ∃ b L, e = .returned (.pointer (some ⟨b, 0, none⟩)) ∧ SRep w1 b emptySt L ∧ Below w.heap.size w w1 ∧ ∀ k ∈ L, w.heap.size ≤ k) := (new_any w).mono fun e w1 ⟨b, L, he, hS, hF, hL⟩ => ⟨b, L, he, hS, ⟨hF.os, hF.tape, hF.output, hF.size, fun k hk => hF.block k hk (fun h => h)⟩, hL⟩
  have HONE := Lib.hid (fun W => one_any W)
  have hbuild : ∀ w, (Instr.build 67 #[(0, .agg #[.int .u64 500000000000000000, .int .u64 0, .int .u64 0, .int .u64 0]), (1, .agg #[.int .u64 1000000000000000000, .int .u64 0, .int .u64 0, .int .u64 0]), (2, .int .i64 3), (3, .int .i64 5)]).run Tryz.prog w = .ok (.agg #[.int .u64 500000000000000000, .int .u64 0, .int .u64 0, .int .u64 0, .int .u64 1000000000000000000, .int .u64 0, .int .u64 0, .int .u64 0, .int .i64 3, .int .i64 5, .int .i64 0, .bool false]) w := fun w => by kernel_rfl
  have hE : ∀ w, (Op.equalIn 10000 65 (.agg #[.int .u64 500000000000000000, .int .u64 0, .int .u64 0, .int .u64 0]) (.agg #[.int .u64 500000000000000000, .int .u64 0, .int .u64 0, .int .u64 0])).run Tryz.prog w = .ok true w := fun w => eqU halfW halfW w
  go_enter Tryz.func30, Tryz.ntmps30
  go_wp2_with fail
  refine Calls.mono HN.out ?_
  rintro e w1 ⟨b, L, rfl, hS, hB1, hL⟩
  have hW0 := bl_alloc (bl_alloc (Below.refl _ w1) (.cells #[.int .u64 500000000000000000, .int .u64 0, .int .u64 0, .int .u64 0] 65)) (.cells #[.int .i64 7, .int .i64 1, .int .i64 9, .int .i64 0] 62)
  have hS0 := hS.below hW0
  have hlt := hS.lt
  have hrH : ((w1.alloc (.cells #[.int .u64 500000000000000000, .int .u64 0, .int .u64 0, .int .u64 0] 65)).alloc (.cells #[.int .i64 7, .int .i64 1, .int .i64 9, .int .i64 0] 62)).heap[w1.heap.size]? = some (.cells #[.int .u64 500000000000000000, .int .u64 0, .int .u64 0, .int .u64 0] 65 (0, 0)) := by
    rw [heap_alloc_old _ _ (by simp)]; exact heap_alloc_new w1 _
  have hrX : ((w1.alloc (.cells #[.int .u64 500000000000000000, .int .u64 0, .int .u64 0, .int .u64 0] 65)).alloc (.cells #[.int .i64 7, .int .i64 1, .int .i64 9, .int .i64 0] 62)).heap[w1.heap.size + 1]? = some (.cells #[.int .i64 7, .int .i64 1, .int .i64 9, .int .i64 0] 62 (0, 0)) := by
    have := heap_alloc_new (w1.alloc (.cells #[.int .u64 500000000000000000, .int .u64 0, .int .u64 0, .int .u64 0] 65)) (.cells #[.int .i64 7, .int .i64 1, .int .i64 9, .int .i64 0] 62)
    rw [World.size_alloc] at this; exact this
  have hsz : ((w1.alloc (.cells #[.int .u64 500000000000000000, .int .u64 0, .int .u64 0, .int .u64 0] 65)).alloc (.cells #[.int .i64 7, .int .i64 1, .int .i64 9, .int .i64 0] 62)).heap.size = w1.heap.size + 2 := by simp
  have HOK : Hid (∀ W, On ((w1.alloc (.cells #[.int .u64 500000000000000000, .int .u64 0, .int .u64 0, .int .u64 0] 65)).alloc (.cells #[.int .i64 7, .int .i64 1, .int .i64 9, .int .i64 0] 62)) b L lvb W → Below w.heap.size w W) := fun W hO => by
    obtain ⟨L', hS', st⟩ := hO
    have hb := bl_then hB1 hW0
    refine ⟨st.fr.os.trans hb.os, st.fr.tape.trans hb.tape, st.fr.output.trans hb.output, Nat.le_trans hb.size st.fr.size, fun k hk => ?_⟩
    rw [st.fr.block k (Nat.lt_of_lt_of_le hk hb.size) (fun hm => absurd (hL k hm) (by omega))]
    exact hb.block k hk
  generalize hw2 : ((w1.alloc (.cells #[.int .u64 500000000000000000, .int .u64 0, .int .u64 0, .int .u64 0] 65)).alloc (.cells #[.int .i64 7, .int .i64 1, .int .i64 9, .int .i64 0] 62)) = w2 at *
  have HF : Hid (∀ s' W, On w2 b L s' W → LvC w1.heap.size W) := fun s' W hO => by
    have n1 : w1.heap.size ∉ L := fun hm => absurd (hlt _ hm) (by omega)
    have n2 : w1.heap.size + 1 ∉ L := fun hm => absurd (hlt _ hm) (by omega)
    have q1 := (hO.heap (by omega) n1).trans hrH
    have q2 := (hO.heap (by omega) n2).trans hrX
    exact ⟨⟨by rw [cell_of_row _ _ _ _ _ _ q1]; rfl, by rw [cell_of_row _ _ _ _ _ _ q1]; rfl, by rw [cell_of_row _ _ _ _ _ _ q1]; rfl, by rw [cell_of_row _ _ _ _ _ _ q1]; rfl⟩, by rw [cell_of_row _ _ _ _ _ _ q2]; rfl, by rw [cell_of_row _ _ _ _ _ _ q2]; rfl, by rw [cell_of_row _ _ _ _ _ _ q2]; rfl, by rw [cell_of_row _ _ _ _ _ _ q2]; rfl⟩
  have HO0 := Lib.hid (On.start (w := w2) hS0)
  have HO0d := Lib.hid HO0.out.drew
  have HMOD : Hid (∀ W, On w2 b L emptySt W → Calls Tryz.prog 23 #[.pointer (some ⟨b, 0, none⟩), .agg #[.int .i64 7, .int .i64 1, .int .i64 9, .int .i64 0], .agg #[.int .u64 500000000000000000, .int .u64 0, .int .u64 0, .int .u64 0, .int .u64 1000000000000000000, .int .u64 0, .int .u64 0, .int .u64 0, .int .i64 3, .int .i64 5, .int .i64 0, .bool false]] W fun e W' => e = .returned (.tuple #[.int .i64 8, .int .i64 0]) ∧ On w2 b L lva W') := fun W hO => hO.call fun L' hS' => lv_modify W b L' hS'
  have HPEN : Hid (∀ W, On w2 b L lva W → Calls Tryz.prog 24 #[.pointer (some ⟨b, 0, none⟩), .agg #[.int .i64 7, .int .i64 1, .int .i64 9, .int .i64 0]] W fun e W' => e = .returned (.tuple #[.int .i64 1, .agg #[.int .u64 500000000000000000, .int .u64 0, .int .u64 0, .int .u64 0], .int .i64 8]) ∧ On w2 b L lva W') := fun W hO => (pending_any W _ lva x7 x7_ok (hO.read lva_fit (by decide))).mono fun e W' ⟨he, hb⟩ => ⟨by rw [he, lva_p]; rfl, hO.below hb⟩
  have HMAT : Hid (∀ W, On w2 b L lva W → Calls Tryz.prog 25 #[.pointer (some ⟨b, 0, none⟩), .agg #[.int .i64 7, .int .i64 1, .int .i64 9, .int .i64 0]] (W.alloc (.cells #[.int .u64 500000000000000000, .int .u64 0, .int .u64 0, .int .u64 0] 65)) fun e W' => e = .returned (.bool true) ∧ On w2 b L lvb W' ∧ W'.heap[W.heap.size]? = some (.cells #[.int .u64 500000000000000000, .int .u64 0, .int .u64 0, .int .u64 0] 65 (0, 0))) := fun W hO => by
    obtain ⟨L1, hS1, st1⟩ := hO
    have hS2 := hS1.alloc (.cells #[.int .u64 500000000000000000, .int .u64 0, .int .u64 0, .int .u64 0] 65)
    have st := st1.trans (⟨Fr.of_below (bl_alloc (Below.refl _ W) (.cells #[.int .u64 500000000000000000, .int .u64 0, .int .u64 0, .int .u64 0] 65)) _, fun _ h => .inl h⟩ : Step W L1 _ L1)
    exact (mature_more _ b lva L1 20 x7 halfW 8 x7_ok hS2 lva_fit (by decide) half_ok lva_p lva_c).mono fun e W' ⟨he, L2, hS3, st2⟩ => ⟨he, ⟨L2, hS3, st.trans st2⟩, (st2.fr.block _ (by simp) (fun hm => absurd (hS1.lt _ hm) (by omega))).trans (heap_alloc_new W _)⟩
  have HCUR : Hid (∀ W, On w2 b L lvb W → Calls Tryz.prog 26 #[.pointer (some ⟨b, 0, none⟩), .agg #[.int .i64 7, .int .i64 1, .int .i64 9, .int .i64 0]] W fun e W' => e = .returned (.agg #[.int .u64 500000000000000000, .int .u64 0, .int .u64 0, .int .u64 0]) ∧ Below W.heap.size W W') := fun W hO => (current_any W _ lvb x7 x7_ok (hO.read lvb_fit (by decide))).mono fun e W' ⟨he, hb⟩ => ⟨by rw [he, lvb_c]; rfl, hb⟩
  have HENC : Hid (∀ W, On w2 b L lvb W → Calls Tryz.prog 27 #[.pointer (some ⟨b, 0, none⟩), .int .i64 7, .int .i64 1] W fun e W' => e = .returned (.agg #[.int .u64 500000000000000000, .int .u64 0, .int .u64 0, .int .u64 0]) ∧ Below W.heap.size W W') := fun W hO => (encumbered_any W _ lvb 7 1 (by decide) (by decide) (hO.read lvb_fit (by decide))).mono fun e W' ⟨he, hb⟩ => ⟨by rw [he, lvb_e]; rfl, hb⟩
  obtain ⟨⟨h0, h1, h2, h3⟩, x0, x1, x2, x3⟩ := HF.out _ _ HO0.out
  clear hS hW0 hS0 hrH hrX hL hB1 HN
  have HW2 := Lib.hid hw2
  clear hw2
  go_wp2_with fail
  rw [HW2.out]
  go_region_held3 (fun w' => w'.cell? ⟨w1.heap.size, 0, none⟩ = some (.int .u64 500000000000000000) ∧ w'.cell? ⟨w1.heap.size, 1, none⟩ = some (.int .u64 0) ∧ w'.cell? ⟨w1.heap.size, 2, none⟩ = some (.int .u64 0) ∧ w'.cell? ⟨w1.heap.size, 3, none⟩ = some (.int .u64 0) ∧ w'.cell? ⟨w1.heap.size + 1, 0, none⟩ = some (.int .i64 7) ∧ w'.cell? ⟨w1.heap.size + 1, 1, none⟩ = some (.int .i64 1) ∧ w'.cell? ⟨w1.heap.size + 1, 2, none⟩ = some (.int .i64 9) ∧ w'.cell? ⟨w1.heap.size + 1, 3, none⟩ = some (.int .i64 0)) (first | assumption | go_keep)
    (first
      | (go_at_call 78; refine Calls.mono (HONE.out _) ?_; rintro e w3 ⟨rfl, hb3⟩; have HO3 := Lib.hid (HO0d.out.below hb3); obtain ⟨⟨j0, j1, j2, j3⟩, k0, k1, k2, k3⟩ := HF.out _ _ HO3.out)
      | (go_at_call 23; refine Calls.mono (HMOD.out _ HO3.out) ?_; rintro e w4 ⟨rfl, hO4⟩; have HO4 := Lib.hid hO4; obtain ⟨⟨l0, l1, l2, l3⟩, m0, m1, m2, m3⟩ := HF.out _ _ hO4; clear hO4))
  all_goals
    have HP4 := Lib.hid (HPEN.out _ HO4.out)
    go_wp2_with fail
    refine Calls.mono HP4.out ?_
    rintro e w5 ⟨rfl, hO5⟩
    have HM5 := Lib.hid (HMAT.out _ hO5)
    have HO5 := Lib.hid (hO5.alloc (.cells #[.int .u64 500000000000000000, .int .u64 0, .int .u64 0, .int .u64 0] 65))
    obtain ⟨_, n0, n1, n2, n3⟩ := HF.out _ _ HO5.out
    clear hO5 HP4
    go_wp2_with fail
    refine Calls.mono HM5.out ?_
    rintro e w6 ⟨rfl, hO6, hP6⟩
    have HO6 := Lib.hid hO6.drew
    have HP6 : Hid (w6.drew.heap[w5.heap.size]? = some (.cells #[.int .u64 500000000000000000, .int .u64 0, .int .u64 0, .int .u64 0] 65 (0, 0))) := hP6
    have HPC : Hid (∀ W : World, W.heap[w5.heap.size]? = some (.cells #[.int .u64 500000000000000000, .int .u64 0, .int .u64 0, .int .u64 0] 65 (0, 0)) → W.cell? ⟨w5.heap.size, 0, none⟩ = some (.int .u64 500000000000000000) ∧ W.cell? ⟨w5.heap.size, 1, none⟩ = some (.int .u64 0) ∧ W.cell? ⟨w5.heap.size, 2, none⟩ = some (.int .u64 0) ∧ W.cell? ⟨w5.heap.size, 3, none⟩ = some (.int .u64 0)) := fun W h => ⟨by rw [cell_of_row _ _ _ _ _ _ h]; rfl, by rw [cell_of_row _ _ _ _ _ _ h]; rfl, by rw [cell_of_row _ _ _ _ _ _ h]; rfl, by rw [cell_of_row _ _ _ _ _ _ h]; rfl⟩
    have HPB : Hid (∀ W W' : World, W.heap[w5.heap.size]? = some (.cells #[.int .u64 500000000000000000, .int .u64 0, .int .u64 0, .int .u64 0] 65 (0, 0)) → Below W.heap.size W W' → W'.heap[w5.heap.size]? = some (.cells #[.int .u64 500000000000000000, .int .u64 0, .int .u64 0, .int .u64 0] 65 (0, 0))) := fun W W' h hb => (hb.block _ (Array.getElem?_eq_some_iff.1 h).1).trans h
    obtain ⟨⟨p0, p1, p2, p3⟩, q0, q1, q2, q3⟩ := HF.out _ _ hO6
    obtain ⟨r0, r1, r2, r3⟩ := HPC.out _ hP6
    clear hO6 hP6 HM5 HMOD HPEN HMAT HO0 HO0d HO4 HO5 HONE
    go_wp2_with fail
    go_region_held3 (fun w' => w'.cell? ⟨w1.heap.size, 0, none⟩ = some (.int .u64 500000000000000000) ∧ w'.cell? ⟨w1.heap.size, 1, none⟩ = some (.int .u64 0) ∧ w'.cell? ⟨w1.heap.size, 2, none⟩ = some (.int .u64 0) ∧ w'.cell? ⟨w1.heap.size, 3, none⟩ = some (.int .u64 0) ∧ w'.cell? ⟨w1.heap.size + 1, 0, none⟩ = some (.int .i64 7) ∧ w'.cell? ⟨w1.heap.size + 1, 1, none⟩ = some (.int .i64 1) ∧ w'.cell? ⟨w1.heap.size + 1, 2, none⟩ = some (.int .i64 9) ∧ w'.cell? ⟨w1.heap.size + 1, 3, none⟩ = some (.int .i64 0) ∧ w'.cell? ⟨w5.heap.size, 0, none⟩ = some (.int .u64 500000000000000000) ∧ w'.cell? ⟨w5.heap.size, 1, none⟩ = some (.int .u64 0) ∧ w'.cell? ⟨w5.heap.size, 2, none⟩ = some (.int .u64 0) ∧ w'.cell? ⟨w5.heap.size, 3, none⟩ = some (.int .u64 0)) (first | assumption | go_keep)
      (first
        | (go_at_call 26; refine Calls.mono (HCUR.out _ HO6.out) ?_; rintro e w7 ⟨rfl, hb7⟩; have HO7 := Lib.hid (HO6.out.below hb7); have HP7 := Lib.hid (HPB.out _ _ HP6.out hb7); obtain ⟨⟨s0, s1, s2, s3⟩, t0, t1, t2, t3⟩ := HF.out _ _ HO7.out; obtain ⟨u0, u1, u2, u3⟩ := HPC.out _ HP7.out)
        | (go_at_call 27; refine Calls.mono (HENC.out _ HO7.out) ?_; rintro e w8 ⟨rfl, hb8⟩; have HO8 := Lib.hid (HO7.out.below hb8); have HP8 := Lib.hid (HPB.out _ _ HP7.out hb8); obtain ⟨⟨v0, v1, v2, v3⟩, y0, y1, y2, y3⟩ := HF.out _ _ HO8.out; obtain ⟨z0, z1, z2, z3⟩ := HPC.out _ HP8.out))
    all_goals
      go_wp2_with fail
      go_ret
      exact ⟨rfl, HOK.out _ HO8.out⟩
end Go.Proofs.YtngaogfhijaaaaaGreat
