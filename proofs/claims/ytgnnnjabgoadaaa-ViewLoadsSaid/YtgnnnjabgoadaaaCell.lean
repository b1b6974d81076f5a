/- What is proved here: cell.Row, cell.Int over a store that holds no byte, or the eight bytes of one number, at the key; cell.put and cell.SetInt over a store. -/
import Derived.Test.YtgnnnjabgoadaaaNums
import Derived.Test.YtgnnnjabgoadaaaDel
import Derived.Test.YtgnnnjabgoadaaaBuildS
namespace Go.Proofs.Ytgnnnjabgoadaaa
open Go.RowKit

/-- One number handed back in a slice, and a word that it is well formed. -/
def RetRow1 (w : World) (n : Nat) (e : Ending) (w' : World) : Prop := ∃ g c, e = .returned (.tuple #[.slice (some ⟨g, 0, none⟩) 1 c, .bool true]) ∧ w'.cell? ⟨g, 0, none⟩ = some (.int .i64 n) ∧ Below w.heap.size w w'
def RetRow (w : World) (n : Nat) (e : Ending) (w' : World) : Prop := ∃ g c, e = .returned (.slice (some ⟨g, 0, none⟩) 1 c) ∧ w'.cell? ⟨g, 0, none⟩ = some (.int .i64 n) ∧ Below w.heap.size w w'

theorem nums_row1 (n : Nat) (hn : n < 9223372036854775808) (w : World) : Calls Try.prog 82 #[.string (numB n)] w (RetRow1 w n) := by
  refine (nums_one n hn w).mono fun e w' ⟨v, he, hO, hb⟩ => ?_
  obtain ⟨g, c, rfl⟩ := hO.inv (by simp)
  refine ⟨g, c, he, ?_, hb⟩
  have := hO.cells (g := g) rfl 0 (.int .i64 n) rfl
  simpa [Addr.add_lit] using this

/-- Get's answer at a pointer and a key. -/
def GetIs (w : World) (q : Option Addr) (k v : ByteArray) (ok : Bool) : Prop := Calls Try.prog 81 #[.pointer q, .string k] w fun e w' => e = .returned (.tuple #[.string v, .bool ok]) ∧ w = w'

set_option maxRecDepth 100000 in
set_option maxHeartbeats 1000000 in
theorem row_none (w : World) (q : Option Addr) (k : ByteArray) (hG : GetIs w q k emptyB false) : Calls Try.prog 61 #[.pointer q, .string k] w fun e w' => e = .returned (.slice none 0 0) ∧ w = w' := by
  have HN := Lib.hid (nums_none w)
  generalize emptyB = v at *
  have HG := Lib.hid hG
  clear hG
  go_enter Try.func61, Try.ntmps61
  go_wp2_with (first | (go_at_call 81; refine Calls.mono HG.out ?_; rintro e w' ⟨rfl, rfl⟩) | (go_at_call 82; refine HN.out.mono ?_; rintro e w' ⟨rfl, rfl⟩))
  go_ret
  exact ⟨rfl, rfl⟩

set_option maxRecDepth 100000 in
set_option maxHeartbeats 1000000 in
theorem row_one (w : World) (q : Option Addr) (k : ByteArray) (n : Nat) (hn : n < 9223372036854775808) (ok : Bool) (hG : GetIs w q k (numB n) ok) : Calls Try.prog 61 #[.pointer q, .string k] w (RetRow w n) := by
  have HN := Lib.hid (nums_row1 n hn w)
  generalize numB n = v at *
  have HG := Lib.hid hG
  have HE : Hid (∀ g c w', w'.cell? ⟨g, 0, none⟩ = some (.int .i64 n) → Below w.heap.size w w' → RetRow w n (.returned (.slice (some ⟨g, 0, none⟩) 1 c)) w') := fun g c w' h1 h2 => ⟨g, c, rfl, h1, h2⟩
  generalize RetRow w n = R at *
  clear hG hn
  go_enter Try.func61, Try.ntmps61
  go_wp2_with (first | (go_at_call 81; refine Calls.mono HG.out ?_; rintro e w' ⟨rfl, rfl⟩) | (go_at_call 82; refine HN.out.mono ?_; rintro e w' ⟨g, c, rfl, hc, hb⟩))
  exact HE.out _ _ _ hc hb

def RetInt (w : World) (n : Int) (e : Ending) (w' : World) : Prop := e = .returned (.int .i64 n) ∧ Below w.heap.size w w'

set_option maxRecDepth 100000 in
set_option maxHeartbeats 1000000 in
theorem int_none (w : World) (q : Option Addr) (k : ByteArray) (hG : GetIs w q k emptyB false) : Calls Try.prog 36 #[.pointer q, .string k] w fun e w' => e = .returned (.int .i64 0) ∧ w = w' := by
  have HG := Lib.hid (row_none w q k hG)
  clear hG
  go_enter Try.func36, Try.ntmps36
  go_wp2_with (go_at_call 61; refine HG.out.mono ?_; rintro e w' ⟨rfl, rfl⟩)
  go_ret
  exact ⟨rfl, rfl⟩

set_option maxRecDepth 100000 in
set_option maxHeartbeats 1000000 in
theorem int_one (w : World) (q : Option Addr) (k : ByteArray) (n : Nat) (hn : n < 9223372036854775808) (ok : Bool) (hG : GetIs w q k (numB n) ok) : Calls Try.prog 36 #[.pointer q, .string k] w (RetInt w n) := by
  have HG := Lib.hid (row_one w q k n hn ok hG)
  clear hG hn
  go_enter Try.func36, Try.ntmps36
  go_wp2_with (go_at_call 61; refine HG.out.mono ?_; rintro e w' ⟨g, c, rfl, hc, hb⟩)
  go_ret
  exact ⟨rfl, hb⟩

theorem RetSt.of_below {w w1 : World} {b : Nat} {L : List Nat} {v : Value} {s' : St} {e : Ending} {w' : World} (hb : Below w.heap.size w w1) (h : RetSt w1 b L v s' e w') : RetSt w b L v s' e w' := by
  obtain ⟨he, L', h1, h2⟩ := h
  exact ⟨he, L', h1, (Step.mk (Fr.of_below hb _) fun _ h => .inl h).trans h2⟩

/-- Put: nothing put in is an entry taken out. -/
theorem put_some (w : World) (b : Nat) (s : St) (L : List Nat) (k v : ByteArray) (h : SRep w b s L) (hk : k ≠ emptyB) (hv : v ≠ emptyB) (hb : s.size < 1000000000000) :
    Calls Try.prog 56 #[.pointer (some ⟨b, 0, none⟩), .string k, .string v] w (RetSt w b L (.tuple #[]) (s.set k v)) := by
  have HS := Lib.hid (set_any w b s L k v h hk hb)
  have HE : Hid (∀ w', RetSt w b L (.int .i64 0) (s.set k v) (.returned (.int .i64 0)) w' → RetSt w b L (.tuple #[]) (s.set k v) (.returned (.tuple #[])) w') := fun w' h => ⟨rfl, h.2⟩
  have HQ : Hid (∀ e w', RetSt w b L (.int .i64 0) (s.set k v) e w' → e = .returned (.int .i64 0)) := fun e w' h => h.1
  generalize RetSt w b L (.tuple #[]) (s.set k v) = R at *
  generalize RetSt w b L (.int .i64 0) (s.set k v) = R0 at *
  have hv' := emptyK hv
  clear h hk hb hv
  go_enter Try.func56, Try.ntmps56
  go_wp2_with (go_at_call 15; refine HS.out.mono ?_; intro e w' hR; obtain rfl := HQ.out _ _ hR)
  go_end0
  exact HE.out _ hR

theorem numB_ne (n : Nat) : numB n ≠ emptyB := fun h => absurd (congrArg ByteArray.size h) (by rw [show (numB n).size = 8 from rfl]; decide)

set_option maxRecDepth 100000 in
set_option maxHeartbeats 1000000 in
theorem setInt_any (w : World) (b : Nat) (s : St) (L : List Nat) (k : ByteArray) (n : Nat) (hn1 : 1 ≤ n) (hn : n < 9223372036854775808) (h : SRep w b s L) (hk : k ≠ emptyB) (hb : s.size < 1000000000000) :
    Calls Try.prog 34 #[.pointer (some ⟨b, 0, none⟩), .string k, .int .i64 n] w (RetSt w b L (.tuple #[]) (s.set k (numB n))) := by
  have HN := Lib.hid (num_any n w hn)
  have HP : Hid (∀ w1, Below w.heap.size w w1 → Calls Try.prog 56 #[.pointer (some ⟨b, 0, none⟩), .string k, .string (numB n)] w1 (RetSt w b L (.tuple #[]) (s.set k (numB n)))) := fun w1 h1 =>
    (put_some w1 b s L k (numB n) (h.fr (Fr.of_below h1 (fun _ => False)) (fun _ _ => id)) hk (numB_ne n) hb).mono fun e w' h2 => h2.of_below h1
  have HQ : Hid (∀ e w', RetSt w b L (.tuple #[]) (s.set k (numB n)) e w' → e = .returned (.tuple #[])) := fun e w' h => h.1
  generalize RetSt w b L (.tuple #[]) (s.set k (numB n)) = R at *
  generalize numB n = v at *
  have hd : decide ((n : Int) < 1) = false := by simp; omega
  clear h hk hb
  go_enter Try.func34, Try.ntmps34
  go_wp2_with (first | (go_at_call 57; refine HN.out.mono ?_; rintro e w1 ⟨rfl, hb1⟩) | (go_at_call 56; refine (HP.out _ hb1).mono ?_; intro e w' hR; obtain rfl := HQ.out _ _ hR))
  go_ways
  go_end0
  exact hR

end Go.Proofs.Ytgnnnjabgoadaaa
