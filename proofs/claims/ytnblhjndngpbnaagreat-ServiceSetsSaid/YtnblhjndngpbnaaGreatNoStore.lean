/- What is proved here: no made store: what it has. a store that is read: made, or not. No condition but sizes. -/
import Derived.Test.YtnblhjndngpbnaaGreatUnder
namespace Go.Proofs.YtnblhjndngpbnaaGreat
open Go.RowKit

/-- No made store: nil, or a store whose word says so. -/
def NoStore (w : World) (q : Option Addr) : Prop := q = none ∨ ∃ b, q = some ⟨b, 0, none⟩ ∧ b < w.heap.size ∧ w.cell? ⟨b, 0, none⟩ = some (.bool false)

theorem NoStore.get {w : World} {q : Option Addr} (h : NoStore w q) (k : ByteArray) : GetIs w q k emptyB false := by
  rcases h with rfl | ⟨b, rfl, _, hc⟩
  · exact get_nil w k
  · exact get_zero w b k hc

theorem NoStore.made {w : World} {q : Option Addr} (h : NoStore w q) : Calls Tryz.prog 48 #[.pointer q] w fun e w' => e = .returned (.bool false) ∧ w = w' := by
  rcases h with rfl | ⟨b, rfl, _, hc⟩
  · exact made_nil w
  · exact made_at w b false hc

theorem NoStore.below {w w' : World} {q : Option Addr} (h : NoStore w q) (hb : Below w.heap.size w w') : NoStore w' q := by
  rcases h with rfl | ⟨b, rfl, hl, hc⟩
  · exact .inl rfl
  · exact .inr ⟨b, rfl, Nat.lt_of_lt_of_le hl hb.size, by rw [hb.cell hl]; exact hc⟩

set_option maxRecDepth 100000 in
set_option maxHeartbeats 1000000 in
theorem under_not (w : World) (q : Option Addr) (p : ByteArray) (h : NoStore w q) : Calls Tryz.prog 35 #[.pointer q, .string p] w (RetPairs w []) := by
  have HI : Hid (Calls Tryz.prog 65 #[.pointer q] w fun e w' => e = .returned (.bool false) ∧ w = w') := by
    rcases h with rfl | ⟨b, rfl, _, hc⟩
    · exact is_nil w
    · exact is_at w b false hc
  clear h
  go_enter Tryz.func35, Tryz.ntmps35
  go_wp2_with (go_at_call 65; refine HI.out.mono ?_; rintro e w' ⟨rfl, rfl⟩)
  go_ret
  exact ⟨_, rfl, OutAt.start w⟩

set_option maxRecDepth 100000 in
set_option maxHeartbeats 1000000 in
theorem all_not (w : World) (q : Option Addr) (h : NoStore w q) : Calls Tryz.prog 24 #[.pointer q] w (RetPairs w []) := by
  have HU : Hid (Calls Tryz.prog 35 #[.pointer q, .string ⟨#[]⟩] w fun e w' => ∃ a n c, e = .returned (.slice a n c) ∧ RetPairs w [] (.returned (.slice a n c)) w') := (under_not w q ⟨#[]⟩ h).mono fun e w' ⟨v, he, hO⟩ => by
    obtain ⟨_, a, c, rfl, _⟩ := hO.1.src
    exact ⟨a, _, c, he, _, rfl, hO⟩
  generalize RetPairs w [] = R at *
  clear h
  go_enter Tryz.func24, Tryz.ntmps24
  go_wp2_with (go_at_call 35; refine HU.out.mono ?_; rintro e w' ⟨a, n, c, rfl, hR⟩)
  exact hR

/-- A store that is read, in blocks below n: made, with these entries; or not, and then it has none. -/
def ReadAt (n : Nat) (w : World) (q : Option Addr) (s : St) : Prop :=
  (∃ b L, q = some ⟨b, 0, none⟩ ∧ SRep w b s L ∧ s.size < 1000000000000 ∧ (∀ k, (s.val k).size < 1000000000000) ∧ ∀ k ∈ L, k < n) ∨ (NoStore w q ∧ (∀ a, q = some a → a.block < n) ∧ s = ⟨[], []⟩)

theorem ReadAt.under {n : Nat} {w : World} {q : Option Addr} {s : St} (h : ReadAt n w q s) (p : ByteArray) : Calls Tryz.prog 35 #[.pointer q, .string p] w (RetPairs w (underE p s.ents)) := by
  rcases h with ⟨b, L, rfl, h, hz, _, _⟩ | ⟨h, _, rfl⟩
  · exact under_any w b s L p h hz
  · exact under_not w q p h

theorem ReadAt.int {n : Nat} {w : World} {q : Option Addr} {s : St} (h : ReadAt n w q s) (k : ByteArray) : Calls Tryz.prog 41 #[.pointer q, .string k] w (RetInt w (s.int k)) := by
  rcases h with ⟨b, L, rfl, h, _, hv, _⟩ | ⟨h, _, rfl⟩
  · exact int_at w b s L k h (hv k)
  · exact (int_none w q k (h.get k)).mono fun e w' ⟨he, hw⟩ => ⟨he, by subst hw; exact Below.refl _ _⟩

theorem ReadAt.below {n : Nat} {w w' : World} {q : Option Addr} {s : St} (h : ReadAt n w q s) (hb : Below n w w') : ReadAt n w' q s := by
  rcases h with ⟨b, L, rfl, h, hz, hv, hl⟩ | ⟨h, hl, rfl⟩
  · exact .inl ⟨b, L, rfl, h.frame fun k hk => hb.block k (hl k hk), hz, hv, hl⟩
  · refine .inr ⟨?_, hl, rfl⟩
    rcases h with rfl | ⟨b, rfl, hlt, hc⟩
    · exact .inl rfl
    · exact .inr ⟨b, rfl, Nat.lt_of_lt_of_le hlt hb.size, by rw [hb.cell (hl _ rfl)]; exact hc⟩

theorem ReadAt.up {n m : Nat} {w : World} {q : Option Addr} {s : St} (h : ReadAt n w q s) (hm : n ≤ m) : ReadAt m w q s := by
  rcases h with ⟨b, L, rfl, h, hz, hv, hl⟩ | ⟨h, hl, rfl⟩
  · exact .inl ⟨b, L, rfl, h, hz, hv, fun k hk => Nat.lt_of_lt_of_le (hl k hk) hm⟩
  · exact .inr ⟨h, fun a ha => Nat.lt_of_lt_of_le (hl a ha) hm, rfl⟩

theorem ReadAt.made {w : World} {b : Nat} {s : St} {L : List Nat} {m : Nat} (h : SRep w b s L) (hf : s.Fit m) (hm : m < 100000000000) : ReadAt w.heap.size w (some ⟨b, 0, none⟩) s :=
  .inl ⟨b, L, rfl, h, by have := hf.size; omega, fun k => hf.val' k, h.lt⟩
theorem ReadAt.not {w : World} {q : Option Addr} (h : NoStore w q) : ReadAt w.heap.size w q ⟨[], []⟩ := by
  refine .inr ⟨h, fun a ha => ?_, rfl⟩
  rcases h with rfl | ⟨b, rfl, hl, _⟩
  · cases ha
  · cases ha; exact hl
end Go.Proofs.YtnblhjndngpbnaaGreat
