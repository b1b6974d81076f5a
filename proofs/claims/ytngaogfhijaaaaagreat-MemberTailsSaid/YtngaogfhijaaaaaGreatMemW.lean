/- What is proved here: the walk of MemberActs. Its condition: the acts' accounts are ints of 64 bits. -/
import Derived.Test.YtngaogfhijaaaaaGreatMemA
import Derived.Test.YtngaogfhijaaaaaGreatMemQ
import Derived.Test.YtngaogfhijaaaaaGreatMemN
import Derived.Test.YtngaogfhijaaaaaGreatEnd
namespace Go.Proofs.YtngaogfhijaaaaaGreat
open Go.RowKit

/-- A key is short. -/
def short25 (k : ByteArray) : Prop := k.size ≤ 25
theorem short24 (a n o : Int) : short25 (K24 a n o) := keyL_short 24 [a, n, o]

theorem put_sorted {s : St} (h : Sorted s.ents) (k v : ByteArray) : Sorted (s.put k v).ents := by
  unfold St.put St.del St.set
  repeat' split
  all_goals first | exact h | exact putE_sorted h _ _ | exact delE_sorted h _

/-- What the laws' states keep. -/
def MGood (s : St) : Prop := Sorted s.ents ∧ NoE s ∧ KeysP short25 s
theorem MGood.act {s : St} (h : MGood s) (k n o b t : Int) : MGood (mAct s k n o b t).2 := by
  refine mAct_keeps h (fun n o v hc => ?_) k n o b t
  have hk : K24 9 n o ≠ emptyB := by
    rcases hc with ⟨h1, h2⟩ | h1
    · exact K24_there h.2.1 (by decide) h1 h2
    · exact K24_in h.2.1 h1
  exact ⟨put_sorted h.1 _ _, h.2.1.put h.1 hk, h.2.2.put (short24 _ _ _) _⟩

/-- Where the law's loop stands: both stores in one state. -/
def MActsAt (w : World) (b m k : Nat) (wr : World) : Prop := ∃ s : St, s.Fit (26 + 2 * k) ∧ MGood s ∧ TwoX w b m s s [] wr

theorem keys_short25 {s : St} (h : KeysP short25 s) : ∀ x ∈ s.ents, x.1.size < 1000000000000 := fun x hx => by
  have : x.1.size ≤ 25 := h x hx
  omega

theorem m27_good : MGood m27 := by
  refine ⟨?_, ?_, ?_⟩
  · have : ∀ s : St, Sorted s.ents → ∀ k n, Sorted (s.setInt k n).ents := fun s h k n => put_sorted h _ _
    have hr : ∀ s : St, Sorted s.ents → ∀ a, Sorted (rRegister s a).2.ents := fun s h a => by
      unfold rRegister
      repeat' split
      all_goals first | exact h | exact this _ (this _ h _ _) _ _
    have hs : ∀ s : St, Sorted s.ents → ∀ a, Sorted (sNew s a).ents := fun s h a => this _ (this _ h _ _) _ _
    have h0 : Sorted emptySt.ents := List.Pairwise.nil
    have hv : Sorted (vNew emptySt).ents := by unfold vNew; exact put_sorted (this _ h0 _ _) _ _
    exact hr _ (hr _ (hr _ (hs _ (hs _ (this _ hv _ _) _) _) _) _) _
  · show m27.val emptyB = emptyB
    kernel_rfl
  · have h : (m27.ents.all fun x => decide (x.1.size ≤ 25)) = true := by kernel_rfl
    exact fun x hx => of_decide_eq_true (p := x.1.size ≤ 25) (List.all_eq_true.1 h x hx)

/-- The act's box. -/
abbrev Act5 (bx : Nat) (k0 x y z u : Int) (w : World) : Prop := w.cell? ⟨bx, 0, none⟩ = some (.int .i64 k0) ∧ w.cell? ⟨bx, 1, none⟩ = some (.int .i64 x) ∧ w.cell? ⟨bx, 2, none⟩ = some (.int .i64 y) ∧ w.cell? ⟨bx, 3, none⟩ = some (.int .i64 z) ∧ w.cell? ⟨bx, 4, none⟩ = some (.int .i64 u)

/-- A round's calls. -/
def MRound (w : World) (b m k bx : Nat) (bl k0 x y z u : Int) (w0 : World) : Prop :=
  Calls Tryz.prog 9 #[.pointer (some ⟨b, 0, none⟩), .pointer (some ⟨m, 0, none⟩), .agg #[.int .i64 k0, .int .i64 x, .int .i64 y, .int .i64 z, .int .i64 u]] w0 fun e w1 => e = .returned (.bool true) ∧ Act5 bx k0 x y z u w1 ∧
  Calls Tryz.prog 11 #[.pointer (some ⟨b, 0, none⟩), .int .i64 9, .int .i64 x, .int .i64 y] w1 fun e w2 => ∃ p : Bool, e = .returned (.bool p) ∧ Act5 bx k0 x y z u w2 ∧
  Calls Tryz.prog 16 #[.pointer (some ⟨m, 0, none⟩), .int .i64 9, .int .i64 x, .int .i64 y] w2 fun e w3 => e = .returned (.bool p) ∧ Act5 bx k0 x y z u w3 ∧
  Calls Tryz.prog 12 #[.pointer (some ⟨b, 0, none⟩), .int .i64 9, .int .i64 x, .int .i64 y, .int .i64 bl] w3 fun e w4 => ∃ q : Bool, e = .returned (.bool q) ∧ Act5 bx k0 x y z u w4 ∧
  Calls Tryz.prog 17 #[.pointer (some ⟨m, 0, none⟩), .int .i64 9, .int .i64 x, .int .i64 y, .int .i64 bl] w4 fun e w5 => e = .returned (.bool q) ∧ Act5 bx k0 x y z u w5 ∧
  Calls Tryz.prog 13 #[.pointer (some ⟨b, 0, none⟩), .int .i64 9, .int .i64 x] w5 fun e w6 => ∃ a6 r c6, e = .returned (.slice a6 r c6) ∧ Act5 bx k0 x y z u w6 ∧
  Calls Tryz.prog 19 #[.pointer (some ⟨m, 0, none⟩), .int .i64 9, .int .i64 x] w6 fun e w7 => ∃ a7 c7, e = .returned (.slice a7 r c7) ∧ Act5 bx k0 x y z u w7 ∧
  Calls Tryz.prog 18 #[.slice a6 r c6, .slice a7 r c7] w7 fun e w8 => e = .returned (.bool true) ∧ Act5 bx k0 x y z u w8 ∧
  Calls Tryz.prog 10 #[.pointer (some ⟨b, 0, none⟩), .int .i64 9, .int .i64 x, .int .i64 y] w8 fun e w9 => ∃ (ub : Int) (ul : Bool), e = .returned (.tuple #[.int .i64 ub, .bool ul]) ∧ Act5 bx k0 x y z u w9 ∧
  Calls Tryz.prog 20 #[.pointer (some ⟨m, 0, none⟩), .int .i64 9, .int .i64 x, .int .i64 y] w9 fun e w10 => e = .returned (.tuple #[.int .i64 ub, .bool ul]) ∧ Act5 bx k0 x y z u w10 ∧ MActsAt w b m (k + 1) w10

theorem mround {w wr : World} {b m k : Nat} (h : MActsAt w b m k wr) (hk : k < 1000) (bl k0 x y z u : Int) (hx : x < 9223372036854775808) (hy : y < 9223372036854775808) :
    MRound w b m k wr.heap.size bl k0 x y z u (wr.alloc (.cells #[.int .i64 k0, .int .i64 x, .int .i64 y, .int .i64 z, .int .i64 u] 30)).drew := by
  obtain ⟨s, hf, hg, hT⟩ := h
  have hB := (hT.box (.cells #[.int .i64 k0, .int .i64 x, .int .i64 y, .int .i64 z, .int .i64 u] 30)).below (w2 := (wr.alloc (.cells #[.int .i64 k0, .int .i64 x, .int .i64 y, .int .i64 z, .int .i64 u] 30)).drew) ⟨rfl, rfl, rfl, Nat.le_refl _, fun _ _ => rfl⟩
  have f1 := mAct_fit hf k0 x y z u
  have g1 := hg.act k0 x y z u
  have hm1 : 26 + 2 * k + 2 < 10000000000 := by omega
  have hz1 : (mAct s k0 x y z u).2.size < 1000000000000 := Nat.lt_of_le_of_lt f1.size (by omega)
  have hl1 : (mAct s k0 x y z u).2.ents.length < 1000000000000 := by unfold St.size at hz1; omega
  have c5 : ∀ {w' : World} {s' : St}, TwoX w b m s' s' ((wr.heap.size, .cells #[.int .i64 k0, .int .i64 x, .int .i64 y, .int .i64 z, .int .i64 u] 30) :: []) w' → Act5 wr.heap.size k0 x y z u w' := fun h => ⟨h.top 0 rfl, h.top 1 rfl, h.top 2 rfl, h.top 3 rfl, h.top 4 rfl⟩
  refine (act27_any hB hf (by omega) hg.2.1 k0 x y z u hx hy).mono fun e w1 ⟨he, h1⟩ => ⟨he, c5 h1, ?_⟩
  generalize hs1 : (mAct s k0 x y z u).2 = s1 at *
  obtain ⟨L1, hS1⟩ := h1.two.srep
  refine (h1.still (mIn_any w1 _ s1 9 x y (by decide) hx hy (ReadAt.made hS1 f1 (by omega)))).mono fun e w2 ⟨he, h2⟩ => ⟨_, he, c5 h2, ?_⟩
  obtain ⟨M2, hR2⟩ := h2.two.rrep
  refine (h2.still (rmIn_any w2 m s1 M2 _ 9 x y (by decide) hx hy hR2 f1 (by omega))).mono fun e w3 ⟨he, h3⟩ => ⟨he, c5 h3, ?_⟩
  obtain ⟨L3, hS3⟩ := h3.two.srep
  refine (h3.still (mSlash_any w3 _ s1 9 x y bl (by decide) hx hy (ReadAt.made hS3 f1 (by omega)))).mono fun e w4 ⟨he, h4⟩ => ⟨_, he, c5 h4, ?_⟩
  obtain ⟨M4, hR4⟩ := h4.two.rrep
  refine (h4.still (rmSlash_any w4 m s1 M4 _ 9 x y bl (by decide) hx hy hR4 f1 (by omega))).mono fun e w5 ⟨he, h5⟩ => ⟨he, c5 h5, ?_⟩
  obtain ⟨L5, hS5⟩ := h5.two.srep
  refine (members_any w5 b s1 L5 _ 9 x (by decide) hx hS5 f1 hm1 (keys_short25 g1.2.2)).mono fun e w6 ⟨v6, he, hr6, hb6⟩ => ?_
  obtain ⟨a6, c6, rfl, hn6⟩ := (row_own hr6).nums
  have h6 := h5.below hb6
  refine ⟨a6, _, c6, he, c5 h6, ?_⟩
  obtain ⟨M6, hR6⟩ := h6.two.rrep
  refine (rmembers_any w6 m s1 M6 _ 9 x (by decide) (by decide) hx hR6 f1 hm1 (keys_short25 g1.2.2)).mono fun e w7 ⟨v7, he, ho7, hb7⟩ => ?_
  obtain ⟨a7, c7, rfl, hn7⟩ := ho7.nums
  have h7 := h6.below hb7
  refine ⟨a7, c7, he, c5 h7, ?_⟩
  have hln : (memL 9 x s1).length < 1000000000000 := by
    unfold memL
    split
    · exact Nat.lt_of_le_of_lt (pickIn_len _) (Nat.lt_of_le_of_lt (filterMap_len _ _) (Nat.lt_of_le_of_lt (underE_len _ _) hl1))
    · decide
  refine (ints_same w7 a6 a7 c6 c7 _ (hn6.below hb7) hn7 hln).mono fun e w8 ⟨he, hb8⟩ => ⟨he, c5 (h7.below hb8), ?_⟩
  have h8 := h7.below hb8
  obtain ⟨L8, hS8⟩ := h8.two.srep
  refine (h8.still (mUntil_any w8 _ s1 9 x y (by decide) hx hy (ReadAt.made hS8 f1 (by omega)))).mono fun e w9 ⟨he, h9⟩ => ⟨_, _, he, c5 h9, ?_⟩
  obtain ⟨M9, hR9⟩ := h9.two.rrep
  exact (h9.still (rmUntil_any w9 m s1 M9 _ 9 x y (by decide) hx hy hR9 f1 (by omega))).mono fun e w10 ⟨he, h10⟩ => ⟨he, c5 h10, s1, f1.mono (by omega), g1, h10.drop⟩

/-- Acts that came in. -/
structure Acts5In (w : World) (a : Option Addr) (l : List (Int × Int × Int × Int × Int)) : Prop where
  at0 : ∀ k x, l[k]? = some x → ∃ ad, a = some ad ∧ w.cell? ((ad.add (k * 5)).add 0) = some (.int .i64 x.1) ∧ w.cell? ((ad.add (k * 5)).add 1) = some (.int .i64 x.2.1) ∧ w.cell? ((ad.add (k * 5)).add 2) = some (.int .i64 x.2.2.1) ∧ w.cell? ((ad.add (k * 5)).add 3) = some (.int .i64 x.2.2.2.1) ∧ w.cell? ((ad.add (k * 5)).add 4) = some (.int .i64 x.2.2.2.2)
  lt : ∀ x ∈ l, x.2.1 < 9223372036854775808 ∧ x.2.2.1 < 9223372036854775808

theorem add_m (a : Addr) (n : Nat) (h : n ≠ 0) : a.add n = ⟨a.block, a.off + n, none⟩ := by
  simp [Addr.add, h]

/-- The same, where the walk asks. -/
def At5 (a : Option Addr) (k : Nat) (x : Int × Int × Int × Int × Int) (wr : World) : Prop := ∃ ad, a = some ad ∧ wr.cell? (ad.add (k * 5)) = some (.int .i64 x.1) ∧ wr.cell? ⟨(ad.add (k * 5)).block, (ad.add (k * 5)).off + 1, none⟩ = some (.int .i64 x.2.1) ∧ wr.cell? ⟨(ad.add (k * 5)).block, (ad.add (k * 5)).off + 2, none⟩ = some (.int .i64 x.2.2.1) ∧ wr.cell? ⟨(ad.add (k * 5)).block, (ad.add (k * 5)).off + 3, none⟩ = some (.int .i64 x.2.2.2.1) ∧ wr.cell? ⟨(ad.add (k * 5)).block, (ad.add (k * 5)).off + 4, none⟩ = some (.int .i64 x.2.2.2.2)
theorem Acts5In.at5 {w wr : World} {a : Option Addr} {l : List (Int × Int × Int × Int × Int)} (h : Acts5In w a l) {k : Nat} {x : Int × Int × Int × Int × Int} (hb : Below w.heap.size w wr) (hk : l[k]? = some x) : At5 a k x wr := by
  obtain ⟨ad, e, h0, h1, h2, h3, h4⟩ := h.at0 k x hk
  have go : ∀ p v, w.cell? p = some v → wr.cell? p = some v := fun p v hp => by rw [hb.cell (World.block_lt_of_cell? w _ hp)]; exact hp
  rw [Addr.add_zero'] at h0
  rw [add_m _ 1 (by decide)] at h1
  rw [add_m _ 2 (by decide)] at h2
  rw [add_m _ 3 (by decide)] at h3
  rw [add_m _ 4 (by decide)] at h4
  exact ⟨ad, e, go _ _ h0, go _ _ h1, go _ _ h2, go _ _ h3, go _ _ h4⟩

set_option maxRecDepth 100000 in
set_option maxHeartbeats 16000000 in
theorem macts_walk (w : World) (a : Option Addr) (c : Nat) (l : List (Int × Int × Int × Int × Int)) (bl : Int) (h : Acts5In w a l) : Calls Tryz.prog 5 #[.slice a l.length c, .int .i64 bl] w fun e w' => e = .returned (.bool true) ∧ Below w.heap.size w w' := by
  have HL := Lib.hid (lives27 w)
  have HN := Lib.hid (world27_any w)
  by_cases h150 : 100 < l.length
  · have hd : decide ((100 : Int) < (l.length : Int)) = true := decide_eq_true (by omega)
    clear h
    generalize l.length = n at *
    go_enter Tryz.func5, Tryz.ntmps5
    go_wp2_with (go_at_call 7; refine HL.out.mono ?_; rintro e w1 ⟨rfl, h1⟩)
    go_ret
    exact ⟨rfl, h1⟩
  · have hd : decide ((100 : Int) < (l.length : Int)) = false := decide_eq_false (by omega)
    have HC : Hid (∀ wr k x, Below w.heap.size w wr → l[k]? = some x → At5 a k x wr) := fun wr k x hb hk => h.at5 hb hk
    have HLT : Hid (∀ (k : Nat) (x : Int × Int × Int × Int × Int), l[k]? = some x → x.2.1 < 9223372036854775808 ∧ x.2.2.1 < 9223372036854775808) := fun k x hk => h.lt x (List.mem_of_getElem? hk)
    have HG : Hid (∀ k, k < l.length → ∃ x, l[k]? = some x) := fun k hk => ⟨_, List.getElem?_eq_getElem hk⟩
    have HB : Hid (∀ b m k wr, MActsAt w b m k wr → Below w.heap.size w wr) := fun b m k wr ⟨_, _, _, h⟩ => h.1
    have HR : Hid (∀ b m k wr, MActsAt w b m k wr → k < 1000 → ∀ k0 x y z u : Int, x < 9223372036854775808 → y < 9223372036854775808 → MRound w b m k wr.heap.size bl k0 x y z u (wr.alloc (.cells #[.int .i64 k0, .int .i64 x, .int .i64 y, .int .i64 z, .int .i64 u] 30)).drew) := fun b m k wr h hk k0 x y z u hx hy => mround h hk bl k0 x y z u hx hy
    have HD : Hid (∀ b m k wr, MActsAt w b m k wr → k < 1000 → ∃ a2 n c2, ListAt m a2 n c2 wr ∧ EndDone 7 w b m a2 n c2 wr.drew) := fun b m k wr ⟨_, hf, _, h⟩ hk => end_done lives27 h (Nat.lt_of_le_of_lt hf.size (by omega))
    clear h
    generalize l.length = n at *
    go_enter Tryz.func5, Tryz.ntmps5
    go_wp2_with fail
    refine HN.out.mono ?_
    rintro e w1 ⟨b, m, rfl, hT⟩
    have H0 : Hid (MActsAt w b m 0 w1) := ⟨m27, f27, m27_good, hT⟩
    clear hT
    go_wp2_with fail
    go_loopw [23] (fun i wr => ∃ k : Nat, i = .int .i64 k ∧ k ≤ n ∧ MActsAt w b m k wr) (fun i _ => n - (intOf i).toNat)
    case atStart => exact ⟨0, rfl, by omega, H0.out⟩
    case round =>
      obtain ⟨k, rfl, hk, hA⟩ := hrel
      have HA := Lib.hid hA
      clear hA H0
      by_cases hlt : k < n
      · obtain ⟨⟨k0, x, y, z, u⟩, hx⟩ := HG.out k hlt
        obtain ⟨ad, rfl, q0, q1, q2, q3, q4⟩ := HC.out wr k _ (HB.out _ _ _ _ HA.out) hx
        obtain ⟨hy, hz⟩ := HLT.out k _ hx
        simp only at q0 q1 q2 q3 q4 hy hz
        have HRO := Lib.hid (HR.out b m k wr HA.out (by omega) k0 x y z u hy hz)
        have hn0 := World.new_ne wr
        unfold MRound at HRO
        clear hx hy hz
        go_upto_region 7 with fail
        have hc0 : (wr.alloc (.cells #[.int .i64 k0, .int .i64 x, .int .i64 y, .int .i64 z, .int .i64 u] 30)).cell? ⟨wr.heap.size, 0, none⟩ = some (.int .i64 k0) := by rw [cell_of_row _ _ _ _ _ _ (heap_alloc_new wr _)]; rfl
        have hc1 : (wr.alloc (.cells #[.int .i64 k0, .int .i64 x, .int .i64 y, .int .i64 z, .int .i64 u] 30)).cell? ⟨wr.heap.size, 1, none⟩ = some (.int .i64 x) := by rw [cell_of_row _ _ _ _ _ _ (heap_alloc_new wr _)]; rfl
        have hc2 : (wr.alloc (.cells #[.int .i64 k0, .int .i64 x, .int .i64 y, .int .i64 z, .int .i64 u] 30)).cell? ⟨wr.heap.size, 2, none⟩ = some (.int .i64 y) := by rw [cell_of_row _ _ _ _ _ _ (heap_alloc_new wr _)]; rfl
        have hc3 : (wr.alloc (.cells #[.int .i64 k0, .int .i64 x, .int .i64 y, .int .i64 z, .int .i64 u] 30)).cell? ⟨wr.heap.size, 3, none⟩ = some (.int .i64 z) := by rw [cell_of_row _ _ _ _ _ _ (heap_alloc_new wr _)]; rfl
        have hc4 : (wr.alloc (.cells #[.int .i64 k0, .int .i64 x, .int .i64 y, .int .i64 z, .int .i64 u] 30)).cell? ⟨wr.heap.size, 4, none⟩ = some (.int .i64 u) := by rw [cell_of_row _ _ _ _ _ _ (heap_alloc_new wr _)]; rfl
        clear hn0 q0 q1 q2 q3 q4 HA
        generalize wr.alloc (.cells #[.int .i64 k0, .int .i64 x, .int .i64 y, .int .i64 z, .int .i64 u] 30) = w0 at *
        generalize wr.heap.size = bx at *
        go_region_held3 (fun w' => w'.cell? ⟨bx, 0, none⟩ = some (.int .i64 k0) ∧ w'.cell? ⟨bx, 1, none⟩ = some (.int .i64 x) ∧ w'.cell? ⟨bx, 2, none⟩ = some (.int .i64 y) ∧ w'.cell? ⟨bx, 3, none⟩ = some (.int .i64 z) ∧ w'.cell? ⟨bx, 4, none⟩ = some (.int .i64 u)) (go_keep)
          (first
            | (go_at_call 9; refine Calls.mono HRO.out ?_; rintro e v1 ⟨rfl, ⟨g0, i0, j0, l0, m0⟩, hS⟩; have HS1 := Lib.hid hS; clear hS)
            | (go_at_call 11; refine Calls.mono HS1.out ?_; rintro e v2 ⟨p, rfl, ⟨g1, i1, j1, l1, m1⟩, hS⟩; have HS2 := Lib.hid hS; clear hS)
            | (go_at_call 16; refine Calls.mono HS2.out ?_; rintro e v3 ⟨rfl, ⟨g2, i2, j2, l2, m2⟩, hS⟩; have HS3 := Lib.hid hS; clear hS)
            | (go_at_call 12; refine Calls.mono HS3.out ?_; rintro e v4 ⟨q, rfl, ⟨g3, i3, j3, l3, m3⟩, hS⟩; have HS4 := Lib.hid hS; clear hS)
            | (go_at_call 17; refine Calls.mono HS4.out ?_; rintro e v5 ⟨rfl, ⟨g4, i4, j4, l4, m4⟩, hS⟩; have HS5 := Lib.hid hS; clear hS)
            | (go_at_call 13; refine Calls.mono HS5.out ?_; rintro e v6 ⟨a6, r, c6, rfl, ⟨g5, i5, j5, l5, m5⟩, hS⟩; have HS6 := Lib.hid hS; clear hS)
            | (go_at_call 19; refine Calls.mono HS6.out ?_; rintro e v7 ⟨a7, c7, rfl, ⟨g6, i6, j6, l6, m6⟩, hS⟩; have HS7 := Lib.hid hS; clear hS)
            | (go_at_call 18; refine Calls.mono HS7.out ?_; rintro e v8 ⟨rfl, ⟨g7, i7, j7, l7, m7⟩, hS⟩; have HS8 := Lib.hid hS; clear hS))
        go_wp2_with fail
        refine Calls.mono HS8.out ?_
        rintro e v9 ⟨ub, ul, rfl, ⟨g8, i8, j8, l8, m8⟩, hS⟩
        have HS9 := Lib.hid hS
        clear hS
        go_wp2_with fail
        refine Calls.mono HS9.out ?_
        rintro e v10 ⟨rfl, _, hA10⟩
        have HA10 := Lib.hid hA10
        have hu1 : (ub != ub) = false := by simp
        have hu2 : (ul != ul) = false := by simp
        clear hA10
        go_wp2_with fail
        go_roundw
        case rel => exact ⟨k + 1, by go_num, by omega, HA10.out⟩
        case measure => simp [intOf]; omega
      · obtain rfl : k = n := by omega
        obtain ⟨a2, n2, c2, hm, hD⟩ := HD.out b m k wr HA.out (by omega)
        have HDO := Lib.hid hD
        clear hD
        unfold EndDone at HDO
        go_wp2_with fail
        go_region_held3 (fun w' => w'.cell? ⟨m, 0, none⟩ = some (.slice a2 n2 c2)) (go_keep)
          (first
            | (go_at_call 22; refine Calls.mono HDO.out ?_; rintro e v4 ⟨a4, c4, rfl, hm4, hS⟩; have HS4 := Lib.hid hS; clear hS)
            | (go_at_call 21; refine Calls.mono HS4.out ?_; rintro e v5 ⟨rfl, hm5, hS⟩; have HS5 := Lib.hid hS; clear hS)
            | (go_at_call 7; refine Calls.mono HS5.out ?_; rintro e v6 ⟨rfl, hm6, hB6⟩))
        go_wp2
        go_ret
        exact ⟨rfl, hB6⟩
end Go.Proofs.YtngaogfhijaaaaaGreat
