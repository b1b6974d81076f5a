/- What is proved here: alloc.Mature, of more that waited. Its conditions: sizes. -/
import Derived.Test.YtngaogfhijaaaaaGreatAllocM
namespace Go.Proofs.YtngaogfhijaaaaaGreat
open Go.RowKit

structure IAt (w : World) (b : Nat) (L : List Nat) (s : St) (x : I4) (W : World) : Prop where
  hb : Below w.heap.size w W
  hs : SRep W b s L
  hA : W.heap[w.heap.size]? = some (.cells (idL x) 62 (0, 0))
theorem IAt.below {w : World} {b : Nat} {L : List Nat} {s : St} {x : I4} {W W' : World} (h : IAt w b L s x W) (hb : Below W.heap.size W W') : IAt w b L s x W' :=
  ⟨bl_then h.hb hb, h.hs.below hb, (hb.block _ (Array.getElem?_eq_some_iff.1 h.hA).1).trans h.hA⟩
theorem IAt.alloc {w : World} {b : Nat} {L : List Nat} {s : St} {x : I4} {W : World} (h : IAt w b L s x W) (o : Obj) : IAt w b L s x (W.alloc o) := h.below (bl_alloc (Below.refl _ W) o)
theorem IAt.start {w : World} {b : Nat} {L : List Nat} {s : St} (h : SRep w b s L) (x : I4) : IAt w b L s x (w.alloc (.cells (idL x) 62)) :=
  have hb := bl_alloc (Below.refl _ w) (.cells (idL x) 62)
  ⟨hb, h.below hb, heap_alloc_new w _⟩
theorem IAt.put {w : World} {b : Nat} {L : List Nat} {s : St} {x : I4} {W : World} (h : IAt w b L s x W) (hlt : ∀ k ∈ L, k < w.heap.size) {D : Nat} (hD : w.heap.size < D) (y : W4) {z : W4} (hr : W.heap[D]? = some (.cells (uL z) 65 (0, 0))) :
    IAt w b L s x ((((W.setCell ⟨D, 0, none⟩ (.int .u64 y.1)).setCell ⟨D, 1, none⟩ (.int .u64 y.2.1)).setCell ⟨D, 2, none⟩ (.int .u64 y.2.2.1)).setCell ⟨D, 3, none⟩ (.int .u64 y.2.2.2)) ∧
    ((((W.setCell ⟨D, 0, none⟩ (.int .u64 y.1)).setCell ⟨D, 1, none⟩ (.int .u64 y.2.1)).setCell ⟨D, 2, none⟩ (.int .u64 y.2.2.1)).setCell ⟨D, 3, none⟩ (.int .u64 y.2.2.2)).heap[D]? = some (.cells (uL y) 65 (0, 0)) := by
  have hoth : ∀ k, k ≠ D → ((((W.setCell ⟨D, 0, none⟩ (.int .u64 y.1)).setCell ⟨D, 1, none⟩ (.int .u64 y.2.1)).setCell ⟨D, 2, none⟩ (.int .u64 y.2.2.1)).setCell ⟨D, 3, none⟩ (.int .u64 y.2.2.2)).heap[k]? = W.heap[k]? := fun k hk => by
    rw [Below.heap_setCell _ _ _ _ hk, Below.heap_setCell _ _ _ _ hk, Below.heap_setCell _ _ _ _ hk, Below.heap_setCell _ _ _ _ hk]
  exact ⟨⟨put4_below h.hb (by omega) _ _ _ _, h.hs.frame fun k hk => hoth k (by have := hlt k hk; omega), (hoth _ (by omega)).trans h.hA⟩, put4 hr y⟩

theorem On.from {w0 w : World} {b : Nat} {L : List Nat} {s : St} {W : World} (h : On w b L s W) (hb : Below w0.heap.size w0 w) : On w0 b L s W := (h.back hb (.bool true)).2

/-- What matured. -/
def matS (s : St) (x : I4) (y : W4) : St := ((s.setAmt (aKey 29 x) y).del (aKey 30 x)).del (aKey 31 x)

set_option maxRecDepth 100000 in
set_option maxHeartbeats 4000000 in
theorem mature_more (w : World) (b : Nat) (s : St) (L : List Nat) (f : Nat) (x : I4) (a : W4) (bl : Nat) (hxo : x.Ok) (h : SRep w b s L) (hf : s.Fit f) (hm : f < 100000000) (ha : a.Ok) (hp : pend s x = (1, a, bl)) (hc0 : uAddC (cur s x) a = 0) :
    Calls Tryz.prog 25 #[.pointer (some ⟨b, 0, none⟩), idV x] w fun e W' => e = .returned (.bool true) ∧ On w b L (matS s x (uAddS (cur s x) a)) W' := by
  have hz : s.size < 1000000000000 := Nat.lt_of_le_of_lt hf.size (by omega)
  have hf1 := hf.setAmt (aKey 29 x) (uAddS (cur s x) a)
  have hz1 : (s.setAmt (aKey 29 x) (uAddS (cur s x) a)).size < 1000000000000 := Nat.lt_of_le_of_lt hf1.size (by omega)
  have hf2 := hf1.del (aKey 30 x)
  have hz2 : ((s.setAmt (aKey 29 x) (uAddS (cur s x) a)).del (aKey 30 x)).size < 1000000000000 := Nat.lt_of_le_of_lt hf2.size (by omega)
  have hlt := h.lt
  have hI0 := IAt.start h x
  have HP : Hid (∀ W, IAt w b L s x W → Calls Tryz.prog 24 #[.pointer (some ⟨b, 0, none⟩), idV x] W fun e W' => e = .returned (.tuple #[.int .i64 1, uV a, .int .i64 bl]) ∧ Below W.heap.size W W') := fun W hI => (pending_any W _ s x hxo (ReadAt.made hI.hs hf (by omega))).mono fun e W' ⟨he, hb⟩ => ⟨by rw [he, hp]; rfl, hb⟩
  have HC : Hid (∀ W, IAt w b L s x W → Calls Tryz.prog 26 #[.pointer (some ⟨b, 0, none⟩), idV x] W fun e W' => e = .returned (uV (cur s x)) ∧ Below W.heap.size W W') := fun W hI => (current_any W _ s x hxo (ReadAt.made hI.hs hf (by omega))).mono fun e W' ⟨he, hb⟩ => ⟨he, hb⟩
  have HADD : Hid (∀ W, Calls Tryz.prog 68 #[uV (cur s x), uV a] W fun e W' => e = .returned (.tuple #[uV (uAddS (cur s x) a), .bool true]) ∧ Below W.heap.size W W') := fun W => by
    have := uadd_any (cur s x) a (toAmt_ok _) ha W
    rw [if_pos hc0, hc0] at this
    exact this
  have HK : Hid (∀ (t : Nat) W s' W', 1 ≤ t → t ≤ 255 → On W b L s' W' → Calls Tryz.prog 66 #[idV x, .int .i64 t] W' fun e W2 => e = .returned (.string (aKey t x)) ∧ On W b L s' W2) := fun t W s' W' h1 h2 hO => (akey_any t h1 h2 x hxo W').mono fun e W2 ⟨he, hb⟩ => ⟨he, hO.below hb⟩
  have HK29 : Hid (∀ W W', On W b L s W' → Calls Tryz.prog 66 #[idV x, .int .i64 29] W' fun e W2 => e = .returned (.string (aKey 29 x)) ∧ On W b L s W2) := fun W W' hO => HK.out 29 W s W' (by decide) (by decide) hO
  have HK30 : Hid (∀ W W', On W b L (s.setAmt (aKey 29 x) (uAddS (cur s x) a)) W' → Calls Tryz.prog 66 #[idV x, .int .i64 30] W' fun e W2 => e = .returned (.string (aKey 30 x)) ∧ On W b L (s.setAmt (aKey 29 x) (uAddS (cur s x) a)) W2) := fun W W' hO => HK.out 30 W _ W' (by decide) (by decide) hO
  have HK31 : Hid (∀ W W', On W b L ((s.setAmt (aKey 29 x) (uAddS (cur s x) a)).del (aKey 30 x)) W' → Calls Tryz.prog 66 #[idV x, .int .i64 31] W' fun e W2 => e = .returned (.string (aKey 31 x)) ∧ On W b L ((s.setAmt (aKey 29 x) (uAddS (cur s x) a)).del (aKey 30 x)) W2) := fun W W' hO => HK.out 31 W _ W' (by decide) (by decide) hO
  have HS : Hid (∀ W W', On W b L s W' → Calls Tryz.prog 70 #[.pointer (some ⟨b, 0, none⟩), .string (aKey 29 x), uV (uAddS (cur s x) a)] W' fun e W2 => e = .returned (.tuple #[]) ∧ On W b L (s.setAmt (aKey 29 x) (uAddS (cur s x) a)) W2) := fun W W' hO => hO.call fun L' hS => setAmt_any W' b s L' _ _ hS hz
  have HD1 : Hid (∀ W W', On W b L (s.setAmt (aKey 29 x) (uAddS (cur s x) a)) W' → Calls Tryz.prog 74 #[.pointer (some ⟨b, 0, none⟩), .string (aKey 30 x)] W' fun e W2 => (∃ r, e = .returned (.bool r)) ∧ On W b L ((s.setAmt (aKey 29 x) (uAddS (cur s x) a)).del (aKey 30 x)) W2) := fun W W' hO => (hO.call fun L' hS => delete_any W' b _ L' _ hS hz1).mono fun e W2 ⟨he, ho⟩ => ⟨⟨_, he⟩, ho⟩
  have HD2 : Hid (∀ W W', On W b L ((s.setAmt (aKey 29 x) (uAddS (cur s x) a)).del (aKey 30 x)) W' → Calls Tryz.prog 74 #[.pointer (some ⟨b, 0, none⟩), .string (aKey 31 x)] W' fun e W2 => (∃ r, e = .returned (.bool r)) ∧ On W b L (matS s x (uAddS (cur s x) a)) W2) := fun W W' hO => (hO.call fun L' hS => delete_any W' b _ L' _ hS hz2).mono fun e W2 ⟨he, ho⟩ => ⟨⟨_, he⟩, ho⟩
  have HI0 := Lib.hid hI0
  have HLT := Lib.hid hlt
  obtain ⟨i0, i1, i2, i3⟩ := idc_row hI0.hA
  clear hI0 h hf hf1 hf2 hz hz1 hz2 hp hc0 ha hxo HK hlt hm
  generalize matS s x (uAddS (cur s x) a) = s4 at *
  generalize (s.setAmt (aKey 29 x) (uAddS (cur s x) a)).del (aKey 30 x) = s3 at *
  generalize s.setAmt (aKey 29 x) (uAddS (cur s x) a) = s2 at *
  generalize uAddS (cur s x) a = sm at *
  generalize cur s x = cu at *
  generalize aKey 29 x = k29 at *
  generalize aKey 30 x = k30 at *
  generalize aKey 31 x = k31 at *
  go_enter Tryz.func25, Tryz.ntmps25
  go_wp2_with fail
  refine Calls.mono (HP.out _ HI0.out) ?_
  rintro e w1 ⟨rfl, hb1⟩
  have HI1 := Lib.hid ((HI0.out.below hb1).alloc (.cells (uL a) 65))
  have HR6 := Lib.hid (heap_alloc_new w1 (.cells (uL a) 65))
  obtain ⟨j0, j1, j2, j3⟩ := idc_row HI1.out.hA
  clear hb1 HP
  have HC1 := Lib.hid (HC.out _ HI1.out)
  clear HC
  go_wp2_with fail
  refine Calls.mono HC1.out ?_
  rintro e w2 ⟨rfl, hb2⟩
  have HI2 := Lib.hid ((HI1.out.below hb2).alloc (.cells (uL cu) 65))
  have hr6 : w2.heap[w1.heap.size]? = some (.cells (uL a) 65 (0, 0)) := (hb2.block _ (by simp)).trans HR6.out
  have hlt6 := (Array.getElem?_eq_some_iff.1 hr6).1
  have hr6b := (heap_alloc_old w2 (.cells (uL cu) 65) hlt6).trans hr6
  have hr8 := heap_alloc_new w2 (.cells (uL cu) 65)
  obtain ⟨p0, p1, p2, p3⟩ := cel4_row hr6b
  have HR8 := Lib.hid hr8
  clear hb2 HC1 hr6 hr6b hr8 HI1 HR6
  have HA2 := Lib.hid (HADD.out (w2.alloc (.cells (uL cu) 65)))
  clear HADD
  go_wp2_with fail
  refine Calls.mono HA2.out ?_
  rintro e w3 ⟨rfl, hb3⟩
  have hr8b : w3.heap[w2.heap.size]? = some (.cells (uL cu) 65 (0, 0)) := (hb3.block _ (by simp)).trans HR8.out
  have hI3 := HI2.out.below hb3
  have hg8 : w.heap.size < w2.heap.size := by
    have h1 := (Array.getElem?_eq_some_iff.1 hI3.hA).1
    have h2 := HI0.out.hb.size
    have h3 := (Array.getElem?_eq_some_iff.1 HI0.out.hA).1
    have h4 := HI2.out.hA
    by_cases e : w.heap.size = w2.heap.size
    · rw [e, heap_alloc_new] at h4
      simp at h4
    · have := (Array.getElem?_eq_some_iff.1 h4).1
      simp at this; omega
  obtain ⟨hI4, hr4⟩ := hI3.put HLT.out hg8 sm hr8b
  obtain ⟨t0, t1, t2, t3, t4, t5, t6, t7⟩ := row4 hr8b
  clear HA2 hb3 HI2 HR8 hr8b hI3
  go_wp2_with fail
  generalize (((w3.setCell ⟨w2.heap.size, 0, none⟩ (.int .u64 sm.1)).setCell ⟨w2.heap.size, 1, none⟩ (.int .u64 sm.2.1)).setCell ⟨w2.heap.size, 2, none⟩ (.int .u64 sm.2.2.1)).setCell ⟨w2.heap.size, 3, none⟩ (.int .u64 sm.2.2.2) = w4 at *
  have HRW : Hid (∀ s' W', On w4 b L s' W' → IdC w.heap.size x W' ∧ Cel4 w2.heap.size sm W') := fun s' W' hO => by
    have n1 : w.heap.size ∉ L := fun hm => absurd (HLT.out _ hm) (by omega)
    have n2 : w2.heap.size ∉ L := fun hm => absurd (HLT.out _ hm) (by omega)
    exact ⟨idc_row ((hO.heap (Array.getElem?_eq_some_iff.1 hI4.hA).1 n1).trans hI4.hA), cel4_row ((hO.heap (Array.getElem?_eq_some_iff.1 hr4).1 n2).trans hr4)⟩
  have HO0 := Lib.hid (On.start (w := w4) hI4.hs)
  have HO0d := Lib.hid HO0.out.drew
  have HBW := Lib.hid hI4.hb
  obtain ⟨⟨l0, l1, l2, l3⟩, m0, m1, m2, m3⟩ := HRW.out _ _ HO0.out
  clear hI4 hr4 t0 t1 t2 t3 t4 t5 t6 t7 p0 p1 p2 p3 j0 j1 j2 j3 i0 i1 i2 i3 hg8
  go_region_held3 (fun w' => w'.cell? ⟨w.heap.size, 0, none⟩ = some (.int .i64 x.1) ∧ w'.cell? ⟨w.heap.size, 1, none⟩ = some (.int .i64 x.2.1) ∧ w'.cell? ⟨w.heap.size, 2, none⟩ = some (.int .i64 x.2.2.1) ∧ w'.cell? ⟨w.heap.size, 3, none⟩ = some (.int .i64 x.2.2.2) ∧ w'.cell? ⟨w2.heap.size, 0, none⟩ = some (.int .u64 sm.1) ∧ w'.cell? ⟨w2.heap.size, 1, none⟩ = some (.int .u64 sm.2.1) ∧ w'.cell? ⟨w2.heap.size, 2, none⟩ = some (.int .u64 sm.2.2.1) ∧ w'.cell? ⟨w2.heap.size, 3, none⟩ = some (.int .u64 sm.2.2.2)) (first | assumption | go_keep)
    (first
      | (go_at_call 66; refine Calls.mono (HK29.out _ _ HO0d.out) ?_; rintro e w5 ⟨rfl, hO5⟩; have HO5 := Lib.hid hO5; obtain ⟨⟨e0, e1, e2, e3⟩, f0, f1, f2, f3⟩ := HRW.out _ _ hO5; clear hO5)
      | (go_at_call 70; refine Calls.mono (HS.out _ _ HO5.out) ?_; rintro e w6 ⟨rfl, hO6⟩; have HO6 := Lib.hid hO6; obtain ⟨⟨n0, n1, n2, n3⟩, o0, o1, o2, o3⟩ := HRW.out _ _ hO6; clear hO6))
  all_goals
    have HK6 := Lib.hid (HK30.out _ _ HO6.out)
    go_wp2_with fail
    refine Calls.mono HK6.out ?_
    rintro e w7 ⟨rfl, hO7⟩
    have HD7 := Lib.hid (HD1.out _ _ hO7)
    clear hO7 HK6
    go_wp2_with fail
    refine Calls.mono HD7.out ?_
    rintro e w8 ⟨⟨r8, rfl⟩, hO8⟩
    have HK8 := Lib.hid (HK31.out _ _ hO8)
    obtain ⟨⟨u0, u1, u2, u3⟩, _⟩ := HRW.out _ _ hO8
    clear hO8 HD7
    go_wp2_with fail
    refine Calls.mono HK8.out ?_
    rintro e w9 ⟨rfl, hO9⟩
    have HD9 := Lib.hid (HD2.out _ _ hO9)
    clear hO9 HK8
    go_wp2_with fail
    refine Calls.mono HD9.out ?_
    rintro e w10 ⟨⟨r10, rfl⟩, hO10⟩
    have HO10 := Lib.hid (hO10.from HBW.out)
    clear hO10 HD9
    go_wp2_with fail
    go_ret
    exact ⟨rfl, HO10.out⟩
end Go.Proofs.YtngaogfhijaaaaaGreat
