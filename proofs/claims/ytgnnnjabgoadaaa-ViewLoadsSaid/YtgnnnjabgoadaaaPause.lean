/- What is proved here: pause.Set, pause.Flags at no store, at an unmade store and at a made one. -/
import Derived.Test.YtgnnnjabgoadaaaCell
namespace Go.Proofs.Ytgnnnjabgoadaaa
open Go.RowKit

/-- No made store: nil, or a store whose word says so. -/
def NoStore (w : World) (q : Option Addr) : Prop := q = none ∨ ∃ b, q = some ⟨b, 0, none⟩ ∧ b < w.heap.size ∧ w.cell? ⟨b, 0, none⟩ = some (.bool false)

theorem NoStore.get {w : World} {q : Option Addr} (h : NoStore w q) (k : ByteArray) : GetIs w q k emptyB false := by
  rcases h with rfl | ⟨b, rfl, _, hc⟩
  · exact get_nil w k
  · exact get_zero w b k hc

theorem NoStore.made {w : World} {q : Option Addr} (h : NoStore w q) : Calls Try.prog 33 #[.pointer q] w fun e w' => e = .returned (.bool false) ∧ w = w' := by
  rcases h with rfl | ⟨b, rfl, _, hc⟩
  · exact made_nil w
  · exact made_at w b false hc

theorem NoStore.below {w w' : World} {q : Option Addr} (h : NoStore w q) (hb : Below w.heap.size w w') : NoStore w' q := by
  rcases h with rfl | ⟨b, rfl, hl, hc⟩
  · exact .inl rfl
  · exact .inr ⟨b, rfl, Nat.lt_of_lt_of_le hl hb.size, by rw [hb.cell hl]; exact hc⟩

set_option maxRecDepth 100000 in
set_option maxHeartbeats 1000000 in
theorem pset_not (w : World) (q : Option Addr) (i : Int) (h : NoStore w q) : Calls Try.prog 9 #[.pointer q, .int .i64 i] w fun e w' => e = .returned (.int .i64 1) ∧ w = w' := by
  have HM := Lib.hid h.made
  clear h
  go_enter Try.func9, Try.ntmps9
  go_wp2_with (go_at_call 33; refine HM.out.mono ?_; rintro e w' ⟨rfl, rfl⟩)
  go_ret
  exact ⟨rfl, rfl⟩

set_option maxRecDepth 100000 in
set_option maxHeartbeats 1000000 in
theorem flags_not (w : World) (q : Option Addr) (h : NoStore w q) : Calls Try.prog 10 #[.pointer q] w (RetInt w 0) := by
  have HK := Lib.hid (key_table 42 (by decide) w)
  have HI : Hid (∀ w1, Below w.heap.size w w1 → Calls Try.prog 36 #[.pointer q, .string (key1 42)] w1 fun e w' => e = .returned (.int .i64 0) ∧ w1 = w') := fun w1 h1 => int_none w1 q (key1 42) ((h.below h1).get _)
  generalize key1 42 = kb at *
  clear h
  go_enter Try.func10, Try.ntmps10
  go_wp2_with (first | (go_at_call 35; refine Calls.mono HK.out ?_; rintro e w1 ⟨rfl, h1⟩) | (go_at_call 36; refine (HI.out _ h1).mono ?_; rintro e w' ⟨rfl, rfl⟩))
  go_ret
  exact ⟨rfl, h1⟩

set_option maxRecDepth 100000 in
set_option maxHeartbeats 1000000 in
theorem flags_made (w : World) (b : Nat) (s : St) (L : List Nat) (n : Nat) (hn : n < 9223372036854775808) (h : SRep w b s L) (hv : s.val (key1 42) = numB n) : Calls Try.prog 10 #[.pointer (some ⟨b, 0, none⟩)] w (RetInt w n) := by
  have HK := Lib.hid (key_table 42 (by decide) w)
  have HI : Hid (∀ w1, Below w.heap.size w w1 → Calls Try.prog 36 #[.pointer (some ⟨b, 0, none⟩), .string (key1 42)] w1 (RetInt w n)) := fun w1 h1 =>
    (int_one w1 _ (key1 42) n hn _ (hv ▸ get_any w1 b s L (key1 42) (h.fr (Fr.of_below h1 (fun _ => False)) (fun _ _ => id)))).mono fun e w' h2 => ⟨h2.1, h1.trans (h2.2.mono h1.size)⟩
  generalize key1 42 = kb at *
  clear h hv
  go_enter Try.func10, Try.ntmps10
  go_wp2_with (first | (go_at_call 35; refine Calls.mono HK.out ?_; rintro e w1 ⟨rfl, h1⟩) | (go_at_call 36; refine (HI.out _ h1).mono ?_; rintro e w' ⟨rfl, h2⟩))
  go_ret
  exact ⟨rfl, h2⟩

set_option maxRecDepth 100000 in
set_option maxHeartbeats 1000000 in
theorem pset_made (w : World) (b : Nat) (s : St) (L : List Nat) (n : Nat) (hn1 : 1 ≤ n) (hn : n ≤ 255) (h : SRep w b s L) (hb : s.size < 1000000000000) :
    Calls Try.prog 9 #[.pointer (some ⟨b, 0, none⟩), .int .i64 n] w (RetSt w b L (.int .i64 0) (s.set (key1 42) (numB n))) := by
  have HM := Lib.hid (made_at w b true h.cell0)
  have HK := Lib.hid (key_table 42 (by decide) w)
  have HI : Hid (∀ w1, Below w.heap.size w w1 → Calls Try.prog 34 #[.pointer (some ⟨b, 0, none⟩), .string (key1 42), .int .i64 n] w1 (RetSt w b L (.tuple #[]) (s.set (key1 42) (numB n)))) := fun w1 h1 =>
    (setInt_any w1 b s L (key1 42) n hn1 (by omega) (h.fr (Fr.of_below h1 (fun _ => False)) (fun _ _ => id)) (fun h => absurd (congrArg ByteArray.size h) (by decide)) hb).mono fun e w' h2 => h2.of_below h1
  have HQ : Hid (∀ e w', RetSt w b L (.tuple #[]) (s.set (key1 42) (numB n)) e w' → e = .returned (.tuple #[]) ∧ RetSt w b L (.int .i64 0) (s.set (key1 42) (numB n)) (.returned (.int .i64 0)) w') := fun e w' h => ⟨h.1, rfl, h.2⟩
  generalize RetSt w b L (.tuple #[]) (s.set (key1 42) (numB n)) = R0 at *
  generalize RetSt w b L (.int .i64 0) (s.set (key1 42) (numB n)) = R at *
  generalize key1 42 = kb at *
  clear h hb
  go_enter Try.func9, Try.ntmps9
  go_wp2_with (first | (go_at_call 33; refine HM.out.mono ?_; rintro e w' ⟨rfl, rfl⟩) | (go_at_call 35; refine Calls.mono HK.out ?_; rintro e w1 ⟨rfl, h1⟩) | (go_at_call 34; refine (HI.out _ h1).mono ?_; intro e w' hR; obtain ⟨rfl, hR2⟩ := HQ.out _ _ hR))
  exact hR2

end Go.Proofs.Ytgnnnjabgoadaaa
