/- What is proved here: alloc's wait, where nothing is due yet. Its conditions: sizes. -/
import Derived.Test.YtngaogfhijaaaaaGreatAllocP
import Derived.Test.YtngaogfhijaaaaaGreatDueB
namespace Go.Proofs.YtngaogfhijaaaaaGreat
open Go.RowKit

/-- A store as it has become since a world. -/
def On (w : World) (b : Nat) (L : List Nat) (s : St) (W : World) : Prop := ∃ L', SRep W b s L' ∧ Step w L W L'
theorem On.start {w : World} {b : Nat} {L : List Nat} {s : St} (h : SRep w b s L) : On w b L s w := ⟨L, h, Step.refl w L⟩
theorem On.below {w : World} {b : Nat} {L : List Nat} {s : St} {W W' : World} (h : On w b L s W) (hb : Below W.heap.size W W') : On w b L s W' := by
  obtain ⟨L', hS, st⟩ := h
  exact ⟨L', hS.below hb, st.trans ⟨Fr.of_below hb _, fun _ h => .inl h⟩⟩
theorem On.drew {w : World} {b : Nat} {L : List Nat} {s : St} {W : World} (h : On w b L s W) : On w b L s W.drew := h.below (bl_drew (Below.refl _ W))
theorem On.alloc {w : World} {b : Nat} {L : List Nat} {s : St} {W : World} (h : On w b L s W) (o : Obj) : On w b L s (W.alloc o) := h.below (bl_alloc (Below.refl _ W) o)
theorem On.heap {w : World} {b : Nat} {L : List Nat} {s : St} {W : World} (h : On w b L s W) {k : Nat} (hk : k < w.heap.size) (hn : k ∉ L) : W.heap[k]? = w.heap[k]? := by
  obtain ⟨L', hS, st⟩ := h
  exact st.fr.block k hk hn
theorem On.size {w : World} {b : Nat} {L : List Nat} {s : St} {W : World} (h : On w b L s W) : w.heap.size ≤ W.heap.size := by
  obtain ⟨L', hS, st⟩ := h
  exact st.fr.size
theorem On.call {w : World} {b : Nat} {L : List Nat} {s s' : St} {W : World} (h : On w b L s W) {f : FuncId} {args : Array Value} {v : Value} (hC : ∀ L', SRep W b s L' → Calls Tryz.prog f args W (RetSt W b L' v s')) :
    Calls Tryz.prog f args W fun e W' => e = .returned v ∧ On w b L s' W' := by
  obtain ⟨L', hS, st⟩ := h
  exact (hC L' hS).mono fun e W' ⟨he, L2, hS2, st2⟩ => ⟨he, L2, hS2, st.trans st2⟩
theorem On.read {w : World} {b : Nat} {L : List Nat} {s : St} {W : World} {f : Nat} (h : On w b L s W) (hf : s.Fit f) (hm : f < 100000000000) : ReadAt W.heap.size W (some ⟨b, 0, none⟩) s := by
  obtain ⟨L', hS, _⟩ := h
  exact ReadAt.made hS hf hm
theorem On.back {w0 w : World} {b : Nat} {L : List Nat} {s : St} {W : World} (h : On w b L s W) (hb : Below w0.heap.size w0 w) (v : Value) : RetSt w0 b L v s (.returned v) W := by
  obtain ⟨L', hS, st⟩ := h
  exact RetSt.of_below hb ⟨rfl, L', hS, st⟩

theorem rowB_shortL (l : List Int) (h : l.length ≤ 100000) : (rowB l).size ≤ 1000000 := by
  show (rowBy l).toArray.size ≤ _
  rw [List.size_toArray, rowBy_len]; omega

/-- What waits. -/
def waitS (s : St) (x : I4) (way : Nat) (a : W4) (bl : Nat) : St := (((s.put (aKey 30 x) (rowB [(way : Int), (bl : Int)])).setAmt (aKey 31 x) a).put (keyL 26 [(bl : Int), 0]) (rowB x.l)).setInt K27 1

set_option maxRecDepth 100000 in
set_option maxHeartbeats 8000000 in
theorem wait_new (w : World) (b : Nat) (s : St) (L : List Nat) (f way bl : Nat) (x : I4) (a : W4) (hx : ∀ n ∈ x.l, 0 ≤ n ∧ n < 9223372036854775808) (h : SRep w b s L) (hf : s.Fit f) (hm : f < 1000000000) (hw : way < 10) (hbl : bl ≤ 1099511627776)
    (hU : underE (keyL 26 [(bl : Int)]) ((s.put (aKey 30 x) (rowB [(way : Int), (bl : Int)])).setAmt (aKey 31 x) a).ents = []) (h27 : ((((s.put (aKey 30 x) (rowB [(way : Int), (bl : Int)])).setAmt (aKey 31 x) a)).put (keyL 26 [(bl : Int), 0]) (rowB x.l)).int K27 = 0) :
    Calls Tryz.prog 119 #[idV x, .pointer (some ⟨b, 0, none⟩), .int .i64 way, uV a, .int .i64 bl] w (RetSt w b L (.int .i64 0) (waitS s x way a bl)) := by
  have hxo : x.Ok := fun n hn => (hx n hn).2
  have hf1 : (s.put (aKey 30 x) (rowB [(way : Int), (bl : Int)])).Fit (f + 2) := hf.put _ (rowB_shortL _ (by simp))
  have hf2 := hf1.setAmt (aKey 31 x) a
  have hz : s.size < 1000000000000 := Nat.lt_of_le_of_lt hf.size (by omega)
  have hz1 : (s.put (aKey 30 x) (rowB [(way : Int), (bl : Int)])).size < 1000000000000 := Nat.lt_of_le_of_lt hf1.size (by omega)
  have hb0 := bl_alloc (bl_alloc (Below.refl _ w) (.cells (idL x) 62)) (.cells (uL a) 65)
  have hS1 := h.below hb0
  have hlt := h.lt
  have hrA : ((w.alloc (.cells (idL x) 62)).alloc (.cells (uL a) 65)).heap[w.heap.size]? = some (.cells (idL x) 62 (0, 0)) := by
    rw [heap_alloc_old _ _ (by simp)]; exact heap_alloc_new w (.cells (idL x) 62)
  have hrB := heap_alloc_new (w.alloc (.cells (idL x) 62)) (.cells (uL a) 65)
  rw [World.size_alloc] at hrB
  have hsz : ((w.alloc (.cells (idL x) 62)).alloc (.cells (uL a) 65)).heap.size = w.heap.size + 2 := by simp
  have HB := Lib.hid hb0
  generalize hw1 : (w.alloc (.cells (idL x) 62)).alloc (.cells (uL a) 65) = w1 at *
  have HF : Hid (∀ s' W, On w1 b L s' W → IdC w.heap.size x W ∧ Cel4 (w.heap.size + 1) a W) := fun s' W hO => by
    have n1 : w.heap.size ∉ L := fun hm => absurd (hlt _ hm) (by omega)
    have n2 : w.heap.size + 1 ∉ L := fun hm => absurd (hlt _ hm) (by omega)
    exact ⟨idc_row ((hO.heap (by omega) n1).trans hrA), cel4_row ((hO.heap (by omega) n2).trans hrB)⟩
  have H0 := Lib.hid (On.start (w := w1) hS1)
  have HK : Hid (∀ (t : Nat) s' W, 1 ≤ t → t ≤ 255 → On w1 b L s' W → Calls Tryz.prog 66 #[idV x, .int .i64 t] W fun e W' => e = .returned (.string (aKey t x)) ∧ On w1 b L s' W') := fun t s' W h1 h2 hO => (akey_any t h1 h2 x hxo W).mono fun e W' ⟨he, hb⟩ => ⟨he, hO.below hb⟩
  have HK30 : Hid (Calls Tryz.prog 66 #[idV x, .int .i64 30] w1 fun e W' => e = .returned (.string (aKey 30 x)) ∧ On w1 b L s W') := HK.out 30 s w1 (by decide) (by decide) H0.out
  have HK31 : Hid (∀ s' W, On w1 b L s' W → Calls Tryz.prog 66 #[idV x, .int .i64 31] W fun e W' => e = .returned (.string (aKey 31 x)) ∧ On w1 b L s' W') := fun s' W hO => HK.out 31 s' W (by decide) (by decide) hO
  have HSR : Hid (∀ W, On w1 b L s W → Calls Tryz.prog 47 #[.pointer (some ⟨b, 0, none⟩), .string (aKey 30 x), .slice (some ⟨W.heap.size, 0, none⟩) 2 2] (W.alloc (.cells #[.int .i64 way, .int .i64 bl] 3)) fun e W' => e = .returned (.tuple #[]) ∧ On w1 b L (s.put (aKey 30 x) (rowB [(way : Int), (bl : Int)])) W') := fun W hO =>
    (hO.alloc _).call fun L' hS => setRow_any _ b s L' _ _ [(way : Int), (bl : Int)] hS hz (two_ints' _ _ _ _ (heap_alloc_new W (.cells #[.int .i64 way, .int .i64 bl] 3))) (by simp) (by simp) (fun m hm => by
      simp only [List.mem_cons, List.not_mem_nil, or_false] at hm
      rcases hm with rfl | rfl <;> omega)
  have HSA : Hid (∀ W, On w1 b L (s.put (aKey 30 x) (rowB [(way : Int), (bl : Int)])) W → Calls Tryz.prog 70 #[.pointer (some ⟨b, 0, none⟩), .string (aKey 31 x), uV a] W fun e W' => e = .returned (.tuple #[]) ∧ On w1 b L ((s.put (aKey 30 x) (rowB [(way : Int), (bl : Int)])).setAmt (aKey 31 x) a) W') := fun W hO =>
    hO.call fun L' hS => setAmt_any W b _ L' _ a hS hz1
  have HDA : Hid (∀ W, On w1 b L ((s.put (aKey 30 x) (rowB [(way : Int), (bl : Int)])).setAmt (aKey 31 x) a) W → Calls Tryz.prog 151 #[.pointer (some ⟨b, 0, none⟩), .int .i64 bl, .slice (some ⟨W.heap.size, 0, none⟩) 4 4] (W.alloc (.cells (idL x) 3)) fun e W' => e = .returned (.int .i64 0) ∧ On w1 b L (waitS s x way a bl) W') := fun W hO =>
    (hO.alloc _).call fun L' hS => dueAdd_new _ b _ L' (f + 2 + 2) bl W.heap.size 4 x.l hS hf2 (by omega) hbl (by simp) (by simp) hx (fun j z hj => by
      obtain ⟨c0, c1, c2, c3⟩ := idc_row (heap_alloc_new W (.cells (idL x) 3))
      match j, hj with
      | 0, hj => cases hj; exact c0
      | 1, hj => cases hj; exact c1
      | 2, hj => cases hj; exact c2
      | 3, hj => cases hj; exact c3) hU h27
  have HR : Hid (∀ W, On w1 b L (waitS s x way a bl) W → RetSt w b L (.int .i64 0) (waitS s x way a bl) (.returned (.int .i64 0)) W) := fun W hO => hO.back HB.out _
  obtain ⟨⟨i0, i1, i2, i3⟩, a0, a1, a2, a3⟩ := HF.out _ _ H0.out
  clear hb0 h hU h27 HK hS1 hrA hrB hf hf1 hf2 hx hxo hlt H0 HB
  generalize RetSt w b L (.int .i64 0) (waitS s x way a bl) = R at *
  generalize waitS s x way a bl = s3 at *
  generalize (s.put (aKey 30 x) (rowB [(way : Int), (bl : Int)])).setAmt (aKey 31 x) a = s2 at *
  generalize s.put (aKey 30 x) (rowB [(way : Int), (bl : Int)]) = s1 at *
  generalize aKey 30 x = k30 at *
  generalize aKey 31 x = k31 at *
  have hW1 : (w.alloc (.cells (idL x) 62)).alloc (.cells (uL a) 65) = w1 := hw1
  have HW1 := Lib.hid hW1
  clear hw1 hW1
  go_enter Tryz.func119, Tryz.ntmps119
  go_wp2_with fail
  rw [HW1.out]
  refine Calls.mono HK30.out ?_
  rintro e w2 ⟨rfl, hO2⟩
  have HSR2 := Lib.hid (HSR.out _ hO2)
  clear HK30 HSR hO2
  go_wp2_with fail
  refine Calls.mono HSR2.out ?_
  rintro e w3 ⟨rfl, hO3⟩
  have HO3 := Lib.hid hO3.drew
  obtain ⟨⟨j0, j1, j2, j3⟩, b0, b1, b2, b3⟩ := HF.out _ _ hO3
  clear HSR2 hO3
  go_wp2_with fail
  go_region_held3 (fun w' => w'.cell? ⟨w.heap.size, 0, none⟩ = some (.int .i64 x.1) ∧ w'.cell? ⟨w.heap.size, 1, none⟩ = some (.int .i64 x.2.1) ∧ w'.cell? ⟨w.heap.size, 2, none⟩ = some (.int .i64 x.2.2.1) ∧ w'.cell? ⟨w.heap.size, 3, none⟩ = some (.int .i64 x.2.2.2) ∧ w'.cell? ⟨w.heap.size + 1, 0, none⟩ = some (.int .u64 a.1) ∧ w'.cell? ⟨w.heap.size + 1, 1, none⟩ = some (.int .u64 a.2.1) ∧ w'.cell? ⟨w.heap.size + 1, 2, none⟩ = some (.int .u64 a.2.2.1) ∧ w'.cell? ⟨w.heap.size + 1, 3, none⟩ = some (.int .u64 a.2.2.2)) (first | assumption | go_keep)
    (first
      | (go_at_call 66; refine Calls.mono (HK31.out _ _ HO3.out) ?_; rintro e w4 ⟨rfl, hO4⟩; have HO4 := Lib.hid hO4; obtain ⟨⟨l0, l1, l2, l3⟩, d0, d1, d2, d3⟩ := HF.out _ _ hO4; clear hO4)
      | (go_at_call 70; refine Calls.mono (HSA.out _ HO4.out) ?_; rintro e w5 ⟨rfl, hO5⟩; have HO5 := Lib.hid hO5; obtain ⟨⟨m0, m1, m2, m3⟩, e0, e1, e2, e3⟩ := HF.out _ _ hO5; clear hO5))
  all_goals
    have HD5 := Lib.hid (HDA.out _ HO5.out)
    go_wp2_with fail
    refine Calls.mono HD5.out ?_
    rintro e w6 ⟨rfl, hO6⟩
    have HR6 := Lib.hid (HR.out _ hO6)
    clear hO6 HD5
    go_wp2_with fail
    exact HR6.out
end Go.Proofs.YtngaogfhijaaaaaGreat
