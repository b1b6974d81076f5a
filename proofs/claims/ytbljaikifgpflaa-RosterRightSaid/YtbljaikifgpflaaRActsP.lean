/- What is proved here: what RosterActs' walk wants: a round of its loop, and its end. Their conditions: numbers below 2^63, sizes. -/
import Derived.Test.YtbljaikifgpflaaRosterA
import Derived.Test.YtbljaikifgpflaaRosterN
import Derived.Test.YtbljaikifgpflaaIntsQ
namespace Go.Proofs.Ytbljaikifgpflaa
open Go.RowKit

/-- A key is short. -/
def short9 (k : ByteArray) : Prop := k.size ≤ 9
theorem short8 (a : Int) : short9 (K8 a) := keyL_short 8 [a]
theorem short9' (a : Int) : short9 (K9 a) := keyL_short 9 [a]

/-- Where the law's loop stands: both stores in one state. -/
def RActsAt (w : World) (b m k : Nat) (wr : World) : Prop := ∃ s : St, s.Fit (4 * k) ∧ KeysP short9 s ∧ TwoX w b m s s [] wr

theorem keys_short {s : St} (h : KeysP short9 s) : ∀ x ∈ s.ents, x.1.size < 1000000000000 := fun x hx => by
  have : x.1.size ≤ 9 := h x hx
  omega

/-- The act's box. -/
abbrev Act3 (bx : Nat) (x y z : Int) (w : World) : Prop := w.cell? ⟨bx, 0, none⟩ = some (.int .i64 x) ∧ w.cell? ⟨bx, 1, none⟩ = some (.int .i64 y) ∧ w.cell? ⟨bx, 2, none⟩ = some (.int .i64 z)

/-- A round's calls. -/
def RRound (w : World) (b m k bx : Nat) (x y z : Int) (w0 : World) : Prop :=
  Calls Try.prog 8 #[.pointer (some ⟨b, 0, none⟩), .pointer (some ⟨m, 0, none⟩), .agg #[.int .i64 x, .int .i64 y, .int .i64 z]] w0 fun e w1 => e = .returned (.bool true) ∧ Act3 bx x y z w1 ∧
  Calls Try.prog 11 #[.pointer (some ⟨b, 0, none⟩), .int .i64 y] w1 fun e w2 => ∃ p : Bool, e = .returned (.bool p) ∧ Act3 bx x y z w2 ∧
  Calls Try.prog 16 #[.pointer (some ⟨m, 0, none⟩), .int .i64 y] w2 fun e w3 => e = .returned (.bool p) ∧ Act3 bx x y z w3 ∧
  Calls Try.prog 10 #[.pointer (some ⟨b, 0, none⟩), .int .i64 y] w3 fun e w4 => ∃ n : Int, e = .returned (.int .i64 n) ∧ Act3 bx x y z w4 ∧
  Calls Try.prog 17 #[.pointer (some ⟨m, 0, none⟩), .int .i64 y] w4 fun e w5 => e = .returned (.int .i64 n) ∧ Act3 bx x y z w5 ∧
  Calls Try.prog 12 #[.pointer (some ⟨b, 0, none⟩), .int .i64 z] w5 fun e w6 => ∃ a6 q c6, e = .returned (.slice a6 q c6) ∧ Act3 bx x y z w6 ∧
  Calls Try.prog 19 #[.pointer (some ⟨m, 0, none⟩), .int .i64 z] w6 fun e w7 => ∃ a7 c7, e = .returned (.slice a7 q c7) ∧ Act3 bx x y z w7 ∧
  Calls Try.prog 18 #[.slice a6 q c6, .slice a7 q c7] w7 fun e w8 => e = .returned (.bool true) ∧ Act3 bx x y z w8 ∧ RActsAt w b m (k + 1) w8

theorem rround {w wr : World} {b m k : Nat} (h : RActsAt w b m k wr) (hk : k < 1000) (x y z : Int) (hy : y < 9223372036854775808) (hz : z < 9223372036854775808) :
    RRound w b m k wr.heap.size x y z (wr.alloc (.cells #[.int .i64 x, .int .i64 y, .int .i64 z] 32)).drew := by
  obtain ⟨s, hf, hks, hT⟩ := h
  have hB := (hT.box (.cells #[.int .i64 x, .int .i64 y, .int .i64 z] 32)).below (w2 := (wr.alloc (.cells #[.int .i64 x, .int .i64 y, .int .i64 z] 32)).drew) ⟨rfl, rfl, rfl, Nat.le_refl _, fun _ _ => rfl⟩
  have f1 := rAct_fit hf x y z
  have k1 := rAct_keys hks short8 short9' x y z
  have hm1 : 4 * k + 4 < 100000000000 := by omega
  have hz1 : (rAct s x y z).size < 1000000000000 := Nat.lt_of_le_of_lt f1.size (by omega)
  have hl1 : (rAct s x y z).ents.length < 1000000000000 := by unfold St.size at hz1; omega
  have c3 : ∀ {w' : World} {s' : St}, TwoX w b m s' s' ((wr.heap.size, .cells #[.int .i64 x, .int .i64 y, .int .i64 z] 32) :: []) w' → Act3 wr.heap.size x y z w' := fun h => ⟨h.top 0 rfl, h.top 1 rfl, h.top 2 rfl⟩
  refine (act21_any hB hf (by omega) x y z hy hz).mono fun e w1 ⟨he, h1⟩ => ⟨he, c3 h1, ?_⟩
  generalize hs1 : rAct s x y z = s1 at *
  obtain ⟨L1, hS1⟩ := h1.two.srep
  refine (h1.still (isR_any w1 b s1 L1 _ y hy hS1 f1 hm1)).mono fun e w2 ⟨he, h2⟩ => ⟨_, he, c3 h2, ?_⟩
  obtain ⟨M2, hR2⟩ := h2.two.rrep
  refine (h2.still (risR_any w2 m s1 M2 _ y hy hR2 f1 hm1)).mono fun e w3 ⟨he, h3⟩ => ⟨he, c3 h3, ?_⟩
  obtain ⟨L3, hS3⟩ := h3.two.srep
  refine (h3.still (ofR_any w3 b s1 L3 _ y hy hS3 f1 hm1)).mono fun e w4 ⟨he, h4⟩ => ⟨_, he, c3 h4, ?_⟩
  obtain ⟨M4, hR4⟩ := h4.two.rrep
  refine (h4.still (rofR_any w4 m s1 M4 _ y hy hR4 f1 hm1)).mono fun e w5 ⟨he, h5⟩ => ⟨he, c3 h5, ?_⟩
  obtain ⟨L5, hS5⟩ := h5.two.srep
  refine (stakers_any w5 _ z s1 (ReadAt.made hS5 f1 hm1) hl1 (keys_short k1)).mono fun e w6 ⟨v6, he, hr6, hb6⟩ => ?_
  obtain ⟨a6, c6, rfl, hn6⟩ := (row_own hr6).nums
  have h6 := h5.below hb6
  refine ⟨a6, _, c6, he, c3 h6, ?_⟩
  obtain ⟨M6, hR6⟩ := h6.two.rrep
  refine (rstakers_any w6 m z s1 M6 (fun k => f1.val' k) hz1 hR6 hl1 (keys_short k1)).mono fun e w7 ⟨v7, he, ho7, hb7⟩ => ?_
  obtain ⟨a7, c7, rfl, hn7⟩ := ho7.nums
  have h7 := h6.below hb7
  refine ⟨a7, c7, he, c3 h7, ?_⟩
  refine (ints_same w7 a6 a7 c6 c7 _ (hn6.below hb7) hn7 (by
    refine Nat.lt_of_le_of_lt (withE_len _ _) (Nat.lt_of_le_of_lt (filterMap_len _ _) (Nat.lt_of_le_of_lt (underE_len _ _) hl1)))).mono fun e w8 ⟨he, hb8⟩ => ⟨he, c3 (h7.below hb8), s1, f1.mono (by omega), k1, (h7.below hb8).drop⟩

/-- The reference's list, where the load finds it. -/
abbrev MAt (m : Nat) (a : Option Addr) (n c : Nat) (w : World) : Prop := w.cell? ⟨m, 0, none⟩ = some (.slice a n c)

/-- The law's end. -/
def RDone (w : World) (b m : Nat) (a2 : Option Addr) (n c2 : Nat) (w0 : World) : Prop :=
  Calls Try.prog 9 #[.pointer (some ⟨b, 0, none⟩)] w0 fun e w1 => ∃ a1 q c1, e = .returned (.slice a1 q c1) ∧ MAt m a2 n c2 w1 ∧
  Calls Try.prog 20 #[.pointer (some ⟨m, 0, none⟩)] w1 fun e w2 => ∃ a3 c3, e = .returned (.slice a3 q c3) ∧ MAt m a2 n c2 w2 ∧
  Calls Try.prog 18 #[.slice a1 q c1, .slice a3 q c3] w2 fun e w3 => e = .returned (.bool true) ∧ MAt m a2 n c2 w3 ∧
  Calls Try.prog 22 #[.pointer (some ⟨b, 0, none⟩)] w3 fun e w4 => ∃ a4 c4, e = .returned (.slice a4 n c4) ∧ MAt m a2 n c2 w4 ∧
  Calls Try.prog 21 #[.slice a4 n c4, .slice a2 n c2] w4 fun e w5 => e = .returned (.bool true) ∧ MAt m a2 n c2 w5 ∧
  Calls Try.prog 6 #[] w5 fun e w6 => e = .returned (.bool true) ∧ MAt m a2 n c2 w6 ∧ Below w.heap.size w w6

theorem rdone {w wr : World} {b m k : Nat} (h : RActsAt w b m k wr) (hk : k < 1000) : ∃ a2 n c2, MAt m a2 n c2 wr ∧ RDone w b m a2 n c2 wr.drew := by
  obtain ⟨s, hf, hks, hX⟩ := h
  have hT := hX.two
  have hm1 : 4 * k < 100000000000 := by omega
  have hz1 : s.size < 1000000000000 := Nat.lt_of_le_of_lt hf.size (by omega)
  have hl1 : s.ents.length < 1000000000000 := by unfold St.size at hz1; omega
  obtain ⟨a2, c2, hc, hA⟩ := two_all hT hz1
  have hd : Below wr.heap.size wr wr.drew := ⟨rfl, rfl, rfl, Nat.le_refl _, fun _ _ => rfl⟩
  have cm : ∀ {w1 w2 : World}, MAt m a2 s.ents.length c2 w1 → Below w1.heap.size w1 w2 → MAt m a2 s.ents.length c2 w2 := fun {w1 w2} h hb => by
    show w2.cell? _ = _
    rw [hb.cell (p := ⟨m, 0, none⟩) (World.block_lt_of_cell? w1 _ h)]; exact h
  refine ⟨a2, _, c2, hc, ?_⟩
  have hT0 := hT.below hd
  have m0 : MAt m a2 s.ents.length c2 wr.drew := hc
  obtain ⟨L0, hS0⟩ := hT0.srep
  refine (operators_any wr.drew _ s (ReadAt.made hS0 hf hm1) hl1 (keys_short hks)).mono fun e w1 ⟨v1, he, hr1, hb1⟩ => ?_
  have ho1 : Own w1 3 1 v1 ((eachE 8 s).map (·.1)).length (((eachE 8 s).map (·.1)).map fun n => Value.int .i64 n) := by
    rw [List.length_map, List.map_map]; exact row_own hr1
  obtain ⟨a1, c1, rfl, hn1⟩ := ho1.nums
  have hT1 := hT0.below hb1
  have m1 := cm m0 hb1
  refine ⟨a1, _, c1, he, m1, ?_⟩
  obtain ⟨M1, hR1⟩ := hT1.rrep
  refine (roperators_any w1 m s M1 hR1 hl1 (keys_short hks)).mono fun e w2 ⟨v2, he, hr2, hb2⟩ => ?_
  have ho2 : Own w2 3 1 v2 ((eachE 8 s).map (·.1)).length (((eachE 8 s).map (·.1)).map fun n => Value.int .i64 n) := by
    rw [List.length_map, List.map_map]; exact hr2
  obtain ⟨a3, c3, rfl, hn3⟩ := ho2.nums
  have hT2 := hT1.below hb2
  have m2 := cm m1 hb2
  refine ⟨a3, c3, he, m2, ?_⟩
  refine (ints_same w2 a1 a3 c1 c3 _ (hn1.below hb2) hn3 (by
    rw [List.length_map]
    exact Nat.lt_of_le_of_lt (filterMap_len _ _) (Nat.lt_of_le_of_lt (underE_len _ _) hl1))).mono fun e w3 ⟨he, hb3⟩ => ⟨he, cm m2 hb3, ?_⟩
  have hT3 := hT2.below hb3
  have m3 := cm m2 hb3
  refine (hA w3 hT3 m3 (two_pairs hT3 m3)).mono fun e w4 ⟨a4, c4, he, h1, h2, h3, h4⟩ => ⟨a4, c4, he, h2, ?_⟩
  refine (same_any w4 a4 a2 c4 c2 s.ents s.ents h3 h4 hl1).mono fun e w5 ⟨he, q, hw⟩ => ?_
  subst hw
  refine ⟨by rw [he]; simp, h2, ?_⟩
  have h5 := h1.drewN q
  refine (lives21 (w4.drewN q)).mono fun e w6 ⟨he, hb6⟩ => ⟨he, cm (w1 := w4.drewN q) h2 hb6, (h5.below hb6).1⟩
end Go.Proofs.Ytbljaikifgpflaa
