/- What is proved here: a law's two stores side by side, the program's and the reference's: what calls on one leave of both; the end of a law that holds all entries against each other. -/
import Derived.Test.YtnblhjndngpbnaaGreatUnder
import Derived.Test.YtnblhjndngpbnaaGreatCell
namespace Go.Proofs.YtnblhjndngpbnaaGreat
open Go.RowKit

/-- Two stores of the law's own: the program's at b, in state s; the reference's at m, in state t. -/
def Two (w : World) (b m : Nat) (s t : St) (w1 : World) : Prop := Below w.heap.size w w1 ∧ ∃ L M, SRep w1 b s L ∧ RRep w1 m t M ∧ (∀ k ∈ L, w.heap.size ≤ k) ∧ (∀ k ∈ M, w.heap.size ≤ k) ∧ ∀ k ∈ L, k ∉ M

theorem Two.below {w w1 w2 : World} {b m : Nat} {s t : St} (h : Two w b m s t w1) (hb : Below w1.heap.size w1 w2) : Two w b m s t w2 := by
  obtain ⟨h0, L, M, h1, h2, h3⟩ := h
  exact ⟨h0.trans (hb.mono h0.size), L, M, h1.below hb, h2.below hb, h3⟩

theorem Two.drewN {w w1 : World} {b m : Nat} {s t : St} (h : Two w b m s t w1) (n : Nat) : Two w b m s t (w1.drewN n) := h.below (below_drewN (Below.refl _ _) n)

theorem below_of_step {w w1 w2 : World} {L L' : List Nat} (h : Below w.heap.size w w1) (hL : ∀ k ∈ L, w.heap.size ≤ k) (hS : Step w1 L w2 L') : Below w.heap.size w w2 :=
  ⟨hS.fr.os.trans h.os, hS.fr.tape.trans h.tape, hS.fr.output.trans h.output, Nat.le_trans h.size hS.fr.size, fun k hk => (hS.fr.block k (Nat.lt_of_lt_of_le hk h.size) (fun hm => by have := hL k hm; omega)).trans (h.block k hk)⟩

/-- A call on the program's store. -/
theorem Two.prog {w w1 : World} {b m : Nat} {s t s' : St} {F : FuncId} {args : Array Value} {v : Value} (h : Two w b m s t w1) (hc : ∀ L, SRep w1 b s L → Calls Tryz.prog F args w1 (RetSt w1 b L v s')) :
    Calls Tryz.prog F args w1 fun e w' => e = .returned v ∧ Two w b m s' t w' := by
  obtain ⟨h0, L, M, h1, h2, h3, h4, h5⟩ := h
  refine (hc L h1).mono fun e w' ⟨he, L', h6, h7⟩ => ⟨he, below_of_step h0 h3 h7, L', M, h6, h2.fr h7.fr (fun k hk hm => h5 k hm hk), fun k hk => ?_, h4, fun k hk hm => ?_⟩
  · rcases h7.own k hk with h8 | h8
    · exact h3 k h8
    · exact Nat.le_trans h0.size h8
  · rcases h7.own k hk with h8 | h8
    · exact h5 k h8 hm
    · have := h2.lt k hm; omega

/-- A call on the reference's store. -/
theorem Two.ref {w w1 : World} {b m : Nat} {s t t' : St} {F : FuncId} {args : Array Value} {v : Value} (h : Two w b m s t w1) (hc : ∀ M, RRep w1 m t M → Calls Tryz.prog F args w1 (RetR w1 m M v t')) :
    Calls Tryz.prog F args w1 fun e w' => e = .returned v ∧ Two w b m s t' w' := by
  obtain ⟨h0, L, M, h1, h2, h3, h4, h5⟩ := h
  refine (hc M h2).mono fun e w' ⟨he, M', h6, h7⟩ => ⟨he, below_of_step h0 h4 h7, L, M', h1.fr h7.fr (fun k hk hm => h5 k hk hm), h6, h3, fun k hk => ?_, fun k hk hm => ?_⟩
  · rcases h7.own k hk with h8 | h8
    · exact h4 k h8
    · exact Nat.le_trans h0.size h8
  · rcases h7.own k hm with h8 | h8
    · exact h5 k hk h8
    · have := h1.lt k hk; omega

/-- A call that leaves all that is there. -/
theorem Two.still {w w1 : World} {b m : Nat} {s t : St} {F : FuncId} {args : Array Value} {v : Value} (h : Two w b m s t w1) (hc : Calls Tryz.prog F args w1 fun e w' => e = .returned v ∧ Below w1.heap.size w1 w') :
    Calls Tryz.prog F args w1 fun e w' => e = .returned v ∧ Two w b m s t w' :=
  hc.mono fun _ _ ⟨he, hb⟩ => ⟨he, h.below hb⟩

theorem Two.srep {w w1 : World} {b m : Nat} {s t : St} (h : Two w b m s t w1) : ∃ L, SRep w1 b s L := by
  obtain ⟨_, L, _, h1, _⟩ := h; exact ⟨L, h1⟩
theorem Two.rrep {w w1 : World} {b m : Nat} {s t : St} (h : Two w b m s t w1) : ∃ M, RRep w1 m t M := by
  obtain ⟨_, _, M, _, h1, _⟩ := h; exact ⟨M, h1⟩

/-- The start: a new store, and the reference's empty one. -/
theorem two_start {w w1 : World} {b : Nat} {L : List Nat} (h1 : SRep w1 b emptySt L) (h2 : Fr (fun _ => False) w w1) (h3 : ∀ k ∈ L, w.heap.size ≤ k) :
    Two w b w1.heap.size emptySt emptySt (w1.alloc (.cells #[.slice none 0 0, .slice none 0 0] 31)) := by
  have hlt := h1.lt
  refine ⟨h2.below.alloc h2.size _, L, rids w1.heap.size (.slice none 0 0) (.slice none 0 0), h1.alloc _, ⟨_, _, ⟨heap_alloc_new w1 _, Own.nil _ _ _, Own.nil _ _ _, List.Pairwise.nil, by simp [Value.ownBlock]⟩, rfl⟩, h3, fun k hk => ?_, fun k hk hm => ?_⟩
  · simp [rids, Value.ownBlock] at hk
    subst hk; exact h2.size
  · simp [rids, Value.ownBlock] at hm
    have := hlt k hk
    omega

/-- All entries of the program's store, as the law's end asks for them, and the reference's, where the load finds them. -/
theorem two_all {w w1 : World} {b m : Nat} {s t : St} (h : Two w b m s t w1) (hb : s.size < 1000000000000) :
    ∃ a2 c2, w1.cell? ⟨m, 0, none⟩ = some (.slice a2 t.ents.length c2) ∧
      ∀ w2, Two w b m s t w2 → w2.cell? ⟨m, 0, none⟩ = some (.slice a2 t.ents.length c2) → PairsAt w2 a2 t.ents → Calls Tryz.prog 24 #[.pointer (some ⟨b, 0, none⟩)] w2 fun e w' =>
        ∃ a1 c1, e = .returned (.slice a1 s.ents.length c1) ∧ Two w b m s t w' ∧ w'.cell? ⟨m, 0, none⟩ = some (.slice a2 t.ents.length c2) ∧ PairsAt w' a1 s.ents ∧ PairsAt w' a2 t.ents := by
  obtain ⟨M, lv, pv, hR, _⟩ := h.rrep
  obtain ⟨a2, c2, rfl, hE⟩ := hR.ents
  refine ⟨a2, c2, hE.hd, fun w2 h2 hc hp => ?_⟩
  obtain ⟨L, hS⟩ := h2.srep
  refine (all_any w2 b s L hS hb).mono fun e w' ⟨v, he, hO⟩ => ?_
  obtain ⟨a1, c1, rfl, hp1⟩ := hO.1.pairs
  refine ⟨a1, c1, he, h2.below hO.2.2, by rw [hO.2.2.cell (p := ⟨m, 0, none⟩) (World.block_lt_of_cell? w2 _ hc)]; exact hc, hp1, ⟨fun k x hk => ?_⟩⟩
  obtain ⟨g, h3, h4, h5⟩ := hp.at0 k x hk
  exact ⟨g, h3, by rw [hO.2.2.cell (p := ⟨g, k * 2, none⟩) (World.block_lt_of_cell? w2 _ h4)]; exact h4, by rw [hO.2.2.cell (p := ⟨g, k * 2 + 1, none⟩) (World.block_lt_of_cell? w2 _ h5)]; exact h5⟩

theorem two_pairs {w w1 : World} {b m : Nat} {s t : St} (h : Two w b m s t w1) {a2 : Option Addr} {c2 : Nat} (hc : w1.cell? ⟨m, 0, none⟩ = some (.slice a2 t.ents.length c2)) : PairsAt w1 a2 t.ents := by
  obtain ⟨M, lv, pv, hR, _⟩ := h.rrep
  obtain ⟨a, c, rfl, hE⟩ := hR.ents
  have := hE.hd
  rw [hc] at this
  cases this
  exact ⟨hE.at0⟩
end Go.Proofs.YtnblhjndngpbnaaGreat
