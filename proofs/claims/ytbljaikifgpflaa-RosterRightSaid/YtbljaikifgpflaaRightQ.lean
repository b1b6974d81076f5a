/- What is proved here: what RosterRight's walk wants: a round of its loop. Its conditions: numbers below 2^63, sizes. -/
import Derived.Test.YtbljaikifgpflaaRightP
namespace Go.Proofs.Ytbljaikifgpflaa
open Go.RowKit

/-- Where the law's loop stands. -/
def RightAt (w : World) (b m k : Nat) (wr : World) : Prop := ∃ s : St, s.Fit (4 * k) ∧ KeysP short9 s ∧ RInv s ∧ TwoX w b m s s [] wr

/-- An operator's stakers, each asked whom it chose. -/
def StakEach (b : Nat) (o : Int) (w5 : World) (a5 : Option Addr) (n5 : Nat) : Prop := ∀ j, j < n5 → ∃ (g : Nat) (u : Int), a5 = some ⟨g, 0, none⟩ ∧ (∀ wr, Below w5.heap.size w5 wr → wr.cell? ⟨g, j, none⟩ = some (.int .i64 u)) ∧
  ∀ wr, Below w5.heap.size w5 wr → Calls Try.prog 10 #[.pointer (some ⟨b, 0, none⟩), .int .i64 u] wr fun e w6 => e = .returned (.int .i64 o) ∧ Below w5.heap.size w5 w6

/-- The operators, each asked. -/
def OpEach (b : Nat) (w2 : World) (a1 : Option Addr) (q : Nat) : Prop := ∀ i, i < q → ∃ (g : Nat) (o : Int), a1 = some ⟨g, 0, none⟩ ∧ (∀ wr, Below w2.heap.size w2 wr → wr.cell? ⟨g, i, none⟩ = some (.int .i64 o)) ∧
  ∀ wr, Below w2.heap.size w2 wr → Calls Try.prog 10 #[.pointer (some ⟨b, 0, none⟩), .int .i64 o] wr fun e w3 => e = .returned (.int .i64 o) ∧ Below w2.heap.size w2 w3 ∧
  Calls Try.prog 11 #[.pointer (some ⟨b, 0, none⟩), .int .i64 o] w3 fun e w4 => e = .returned (.bool true) ∧ Below w2.heap.size w2 w4 ∧
  Calls Try.prog 12 #[.pointer (some ⟨b, 0, none⟩), .int .i64 o] w4 fun e w5 => ∃ a5 n5 c5, e = .returned (.slice a5 n5 c5) ∧ n5 < 1000000000000 ∧ Below w2.heap.size w2 w5 ∧ StakEach b o w5 a5 n5

/-- Whoever acted is asked. -/
def MeEach (b bx : Nat) (y : Int) (w2 : World) : Prop := ∀ wr, Below w2.heap.size w2 wr → Calls Try.prog 10 #[.pointer (some ⟨b, 0, none⟩), .int .i64 y] wr fun e w7 => ∃ o : Int, e = .returned (.int .i64 o) ∧ Below w2.heap.size w2 w7 ∧
  (o ≠ 0 → Calls Try.prog 12 #[.pointer (some ⟨b, 0, none⟩), .int .i64 o] w7 fun e w8 => ∃ (l : List Int) (a8 : Option Addr) (c8 : Nat), e = .returned (.slice a8 l.length c8) ∧ l.length < 1000000000000 ∧ y ∈ l ∧ Below w2.heap.size w2 w8 ∧
    (∀ wr, Below w8.heap.size w8 wr → IntsLie wr a8 l ∧ wr.cell? ⟨bx, 1, none⟩ = some (.int .i64 y)) ∧
    ∀ wr, Below w8.heap.size w8 wr → Calls Try.prog 11 #[.pointer (some ⟨b, 0, none⟩), .int .i64 o] wr fun e w9 => e = .returned (.bool true) ∧ Below w2.heap.size w2 w9)

/-- A round. -/
def RightRound (w : World) (b m k bx : Nat) (x y z : Int) (w0 : World) : Prop :=
  Calls Try.prog 8 #[.pointer (some ⟨b, 0, none⟩), .pointer (some ⟨m, 0, none⟩), .agg #[.int .i64 x, .int .i64 y, .int .i64 z]] w0 fun e w1 => e = .returned (.bool true) ∧
  Calls Try.prog 9 #[.pointer (some ⟨b, 0, none⟩)] w1 fun e w2 => ∃ a1 q c1, e = .returned (.slice a1 q c1) ∧ q < 1000000000000 ∧ OpEach b w2 a1 q ∧ (∀ wr, Below w2.heap.size w2 wr → wr.cell? ⟨bx, 1, none⟩ = some (.int .i64 y)) ∧ MeEach b bx y w2 ∧
    ∀ wr, Below w2.heap.size w2 wr → RightAt w b m (k + 1) wr

theorem right_round {w wr : World} {b m k : Nat} (h : RightAt w b m k wr) (hk : k < 1000) (x y z : Int) (hy : y < 9223372036854775808) (hz : z < 9223372036854775808) :
    RightRound w b m k wr.heap.size x y z (wr.alloc (.cells #[.int .i64 x, .int .i64 y, .int .i64 z] 32)) := by
  obtain ⟨s, hf, hks, hI, hT⟩ := h
  have hB := hT.box (.cells #[.int .i64 x, .int .i64 y, .int .i64 z] 32)
  have f1 := rAct_fit hf x y z
  have k1 := rAct_keys hks short8 short9' x y z
  have i1 := hI.act x y z hy hz
  have hm1 : 4 * k + 4 < 100000000000 := by omega
  have hz1 : (rAct s x y z).size < 1000000000000 := Nat.lt_of_le_of_lt f1.size (by omega)
  have hl1 : (rAct s x y z).ents.length < 1000000000000 := by unfold St.size at hz1; omega
  refine (act21_any hB hf (by omega) x y z hy hz).mono fun e w1 ⟨he, h1⟩ => ⟨he, ?_⟩
  generalize rAct s x y z = s1 at *
  have hks1 := keys_short k1
  have hel : ∀ t, (eachE t s1).length < 1000000000000 := fun t => Nat.lt_of_le_of_lt (filterMap_len _ _) (Nat.lt_of_le_of_lt (underE_len _ _) hl1)
  -- what a call on a world behind finds
  have hof : ∀ {w2 wr : World} {X}, TwoX w b m s1 s1 X w2 → Below w2.heap.size w2 wr → ∀ u : Int, u < 9223372036854775808 → Calls Try.prog 10 #[.pointer (some ⟨b, 0, none⟩), .int .i64 u] wr fun e w6 => e = .returned (.int .i64 (rOf s1 u)) ∧ Below w2.heap.size w2 w6 := fun {w2 wr X} h2 hb u hu => by
    obtain ⟨L, hS⟩ := (h2.below hb).two.srep
    exact (ofR_any wr b s1 L _ u hu hS f1 hm1).mono fun e w6 ⟨he, hb6⟩ => ⟨he, hb.trans (hb6.mono hb.size)⟩
  have his : ∀ {w2 wr : World} {X}, TwoX w b m s1 s1 X w2 → Below w2.heap.size w2 wr → ∀ u : Int, u < 9223372036854775808 → Calls Try.prog 11 #[.pointer (some ⟨b, 0, none⟩), .int .i64 u] wr fun e w6 => e = .returned (.bool (rIs s1 u)) ∧ Below w2.heap.size w2 w6 := fun {w2 wr X} h2 hb u hu => by
    obtain ⟨L, hS⟩ := (h2.below hb).two.srep
    exact (isR_any wr b s1 L _ u hu hS f1 hm1).mono fun e w6 ⟨he, hb6⟩ => ⟨he, hb.trans (hb6.mono hb.size)⟩
  have hst : ∀ {w2 wr : World} {X}, TwoX w b m s1 s1 X w2 → Below w2.heap.size w2 wr → ∀ u : Int, Calls Try.prog 12 #[.pointer (some ⟨b, 0, none⟩), .int .i64 u] wr fun e w6 => ∃ a c, e = .returned (.slice a (withE u (eachE 9 s1)).length c) ∧ IntsLie w6 a (withE u (eachE 9 s1)) ∧ Below w2.heap.size w2 w6 := fun {w2 wr X} h2 hb u => by
    obtain ⟨L, hS⟩ := (h2.below hb).two.srep
    refine (stakers_any wr _ u s1 (ReadAt.made hS f1 hm1) hl1 hks1).mono fun e w6 ⟨v6, he, hr6, hb6⟩ => ?_
    obtain ⟨a6, c6, rfl, hn6⟩ := (row_own hr6).nums
    exact ⟨a6, c6, he, hn6, hb.trans (hb6.mono hb.size)⟩
  obtain ⟨L1, hS1⟩ := h1.two.srep
  refine (operators_any w1 _ s1 (ReadAt.made hS1 f1 hm1) hl1 hks1).mono fun e w2 ⟨v2, he, hr2, hb2⟩ => ?_
  have ho2 : Own w2 3 1 v2 ((eachE 8 s1).map (·.1)).length (((eachE 8 s1).map (·.1)).map fun n => Value.int .i64 n) := by
    rw [List.length_map, List.map_map]; exact row_own hr2
  obtain ⟨a1, c1, rfl, hn1⟩ := ho2.nums
  have h2 := h1.below hb2
  have hcb : ∀ wr2, Below w2.heap.size w2 wr2 → wr2.cell? ⟨wr.heap.size, 1, none⟩ = some (.int .i64 y) := fun wr2 hb => (h2.below hb).top 1 rfl
  refine ⟨a1, _, c1, he, by rw [List.length_map]; exact hel 8, fun i hi => ?_, hcb, fun wr2 hb => ?_, fun wr2 hb => ⟨s1, f1.mono (by omega), k1, i1, (h2.below hb).drop⟩⟩
  · obtain ⟨o, ho⟩ : ∃ o, ((eachE 8 s1).map (·.1))[i]? = some o := ⟨_, List.getElem?_eq_getElem hi⟩
    obtain ⟨g, rfl, _⟩ := hn1.at0 i o ho
    obtain ⟨ol, oo, oi⟩ := i1.op (List.mem_of_getElem? ho)
    refine ⟨g, o, rfl, fun wr2 hb => ?_, fun wr2 hb => ?_⟩
    · obtain ⟨g', e, h⟩ := (hn1.below hb).at0 i o ho
      cases e; exact h
    · refine (hof h2 hb o ol).mono fun e w3 ⟨he, hb3⟩ => ⟨by rw [he, oo], hb3, ?_⟩
      refine (his h2 hb3 o ol).mono fun e w4 ⟨he, hb4⟩ => ⟨by rw [he, oi], hb4, ?_⟩
      refine (hst h2 hb4 o).mono fun e w5 ⟨a5, c5, he, hn5, hb5⟩ => ⟨a5, _, c5, he, Nat.lt_of_le_of_lt (withE_len _ _) (hel 9), hb5, fun j hj => ?_⟩
      obtain ⟨u, hu⟩ : ∃ u, (withE o (eachE 9 s1))[j]? = some u := ⟨_, List.getElem?_eq_getElem hj⟩
      obtain ⟨g5, rfl, _⟩ := hn5.at0 j u hu
      obtain ⟨ul, uo⟩ := staker_of (List.mem_of_getElem? hu)
      refine ⟨g5, u, rfl, fun wr3 hb6 => ?_, fun wr3 hb6 => (hof (h2.below hb5) hb6 u ul).mono fun e w6 ⟨he, hb7⟩ => ⟨by rw [he, uo], hb7⟩⟩
      obtain ⟨g', e, h⟩ := (hn5.below hb6).at0 j u hu
      cases e; exact h
  · refine (hof h2 hb y hy).mono fun e w7 ⟨he, hb7⟩ => ⟨_, he, hb7, fun h0 => ?_⟩
    obtain ⟨hi, hm⟩ := i1.me hy (by intro e; apply h0; rw [e]; rfl)
    refine (hst h2 hb7 _).mono fun e w8 ⟨a8, c8, he, hn8, hb8⟩ => ⟨_, a8, c8, he, Nat.lt_of_le_of_lt (withE_len _ _) (hel 9), hm, hb8, fun wr3 hb9 => ⟨hn8.below hb9, hcb _ (hb8.trans (hb9.mono hb8.size))⟩, fun wr3 hb9 => ?_⟩
    refine (his h2 (hb8.trans (hb9.mono hb8.size)) _ (rOf_lt s1 y)).mono fun e w9 ⟨he, hb10⟩ => ⟨by rw [he, hi], hb10⟩
end Go.Proofs.Ytbljaikifgpflaa
