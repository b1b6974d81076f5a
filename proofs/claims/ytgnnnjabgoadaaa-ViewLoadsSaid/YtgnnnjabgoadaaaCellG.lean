/- What is proved here: cell.Row, Int, put and SetInt over a store, at whatever lies there. Its conditions: a value shorter than 10^12 bytes; fewer than 10^12 entries and changes. -/
import Derived.Test.YtgnnnjabgoadaaaCell
import Derived.Test.YtgnnnjabgoadaaaRStore
import Derived.Test.YtgnnnjabgoadaaaNumsG
namespace Go.Proofs.Ytgnnnjabgoadaaa
open Go.RowKit

/-- The numbers of a value: none, where it is no row of numbers. -/
def rowOf (v : ByteArray) : List Nat := (numsL v.data.toList).getD []
def intOfV (v : ByteArray) : Nat := match rowOf v with | [n] => n | _ => 0
def St.int (s : St) (k : ByteArray) : Nat := intOfV (s.val k)
def St.put (s : St) (k v : ByteArray) : St := if v = emptyB then s.del k else if k = emptyB then s else s.set k v
def St.setInt (s : St) (k : ByteArray) (n : Int) : St := s.put k (if n < 1 then emptyB else numB n.toNat)

def intsV (l : List Nat) : List Value := l.map fun (n : Nat) => Value.int .i64 n

/-- A new slice of ints is returned. -/
def RetRowG (w : World) (l : List Nat) (e : Ending) (w' : World) : Prop := ∃ v, e = .returned v ∧ Own w' 3 1 v l.length (intsV l) ∧ (∀ g, v.ownBlock = some g → w.heap.size ≤ g) ∧ Below w.heap.size w w'

set_option maxRecDepth 100000 in
set_option maxHeartbeats 1000000 in
theorem rowG_any (w : World) (q : Option Addr) (k v : ByteArray) (ok : Bool) (hG : GetIs w q k v ok) (hv : v.size < 1000000000000) : Calls Try.prog 61 #[.pointer q, .string k] w (RetRowG w (rowOf v)) := by
  have HG := Lib.hid hG
  have HN := Lib.hid (nums_any v hv w)
  have HE0 : Hid (∀ w', numsL v.data.toList = none → Below w.heap.size w w' → RetRowG w (rowOf v) (.returned (.slice none 0 0)) w') := fun w' h hb => by
    have : rowOf v = [] := by unfold rowOf; rw [h]; rfl
    rw [this]
    exact ⟨_, rfl, Own.nil _ _ _, fun g hg => by simp [Value.ownBlock] at hg, hb⟩
  have HE1 : Hid (∀ w' ns u, numsL v.data.toList = some ns → Below w.heap.size w w' → Own w' 3 1 u ns.length (ns.map fun (n : Nat) => Value.int .i64 n) → (∀ k, u.ownBlock = some k → w.heap.size ≤ k) → RetRowG w (rowOf v) (.returned u) w') := fun w' ns u h hb ho hf => by
    have : rowOf v = ns := by unfold rowOf; rw [h]; rfl
    rw [this]
    exact ⟨_, rfl, ho, hf, hb⟩
  generalize RetRowG w (rowOf v) = R at *
  clear hG
  cases hn : numsL v.data.toList with
  | none =>
    rw [hn] at HN
    have HN2 : Hid (Calls Try.prog 82 #[.string v] w fun e w' => e = .returned (.tuple #[.slice none 0 0, .bool false]) ∧ Below w.heap.size w w') := HN.out.mono fun e w' h => ⟨h.2, h.1⟩
    have HEE := Lib.hid (fun w' => HE0.out w' hn)
    clear hn HN HE0 HE1
    go_enter Try.func61, Try.ntmps61
    go_wp2_with (first | (go_at_call 81; refine Calls.mono HG.out ?_; rintro e w' ⟨rfl, rfl⟩) | (go_at_call 82; refine Calls.mono HN2.out ?_; rintro e w' ⟨rfl, hb⟩))
    exact HEE.out _ hb
  | some ns =>
    rw [hn] at HN
    have HN2 : Hid (Calls Try.prog 82 #[.string v] w fun e w' => ∃ a c, e = .returned (.tuple #[.slice a ns.length c, .bool true]) ∧ R (.returned (.slice a ns.length c)) w') := HN.out.mono fun e w' h => by
      obtain ⟨hb, u, rfl, ho, hf⟩ := h
      obtain ⟨a, c, hu, _⟩ := ho.form
      subst hu
      exact ⟨a, c, rfl, HE1.out w' ns _ hn hb ho hf⟩
    clear hn HN HE0 HE1
    generalize ns.length = n at *
    go_enter Try.func61, Try.ntmps61
    go_wp2_with (first | (go_at_call 81; refine Calls.mono HG.out ?_; rintro e w' ⟨rfl, rfl⟩) | (go_at_call 82; refine Calls.mono HN2.out ?_; rintro e w' ⟨a, c, rfl, hR⟩))
    exact hR

set_option maxRecDepth 100000 in
set_option maxHeartbeats 1000000 in
theorem intG_any (w : World) (q : Option Addr) (k v : ByteArray) (ok : Bool) (hG : GetIs w q k v ok) (hv : v.size < 1000000000000) : Calls Try.prog 36 #[.pointer q, .string k] w (RetInt w (intOfV v)) := by
  have HR := Lib.hid (rowG_any w q k v ok hG hv)
  clear hG
  unfold intOfV
  match hr : rowOf v with
  | [] =>
    rw [hr] at HR
    have HR2 : Hid (Calls Try.prog 61 #[.pointer q, .string k] w fun e w' => ∃ a c, e = .returned (.slice a 0 c) ∧ Below w.heap.size w w') := HR.out.mono fun e w' ⟨v, h1, ho, _, hb⟩ => by
      obtain ⟨a, c, rfl, _⟩ := ho.form
      exact ⟨a, c, h1, hb⟩
    clear HR hr
    go_enter Try.func36, Try.ntmps36
    go_wp2_with (go_at_call 61; refine HR2.out.mono ?_; rintro e w' ⟨a, c, rfl, hb⟩)
    go_ret
    exact ⟨rfl, hb⟩
  | [n] =>
    rw [hr] at HR
    have HR2 : Hid (Calls Try.prog 61 #[.pointer q, .string k] w fun e w' => ∃ g c, e = .returned (.slice (some ⟨g, 0, none⟩) 1 c) ∧ w'.cell? ⟨g, 0, none⟩ = some (.int .i64 n) ∧ Below w.heap.size w w') := HR.out.mono fun e w' ⟨v, h1, ho, _, hb⟩ => by
      obtain ⟨a, c, rfl, hc⟩ := ho.form
      obtain ⟨g, rfl, hc0⟩ := hc 0 (.int .i64 n) rfl
      exact ⟨g, c, h1, hc0, hb⟩
    clear HR hr
    go_enter Try.func36, Try.ntmps36
    go_wp2_with (go_at_call 61; refine HR2.out.mono ?_; rintro e w' ⟨g, c, rfl, hc, hb⟩)
    go_ret
    exact ⟨rfl, hb⟩
  | x :: y :: l =>
    rw [hr] at HR
    have HR2 : Hid (Calls Try.prog 61 #[.pointer q, .string k] w fun e w' => ∃ a c, e = .returned (.slice a (l.length + 1 + 1) c) ∧ Below w.heap.size w w') := HR.out.mono fun e w' ⟨v, h1, ho, _, hb⟩ => by
      obtain ⟨a, c, rfl, _⟩ := ho.form
      exact ⟨a, c, h1, hb⟩
    clear HR hr
    have hne : (((l.length : Int) + 1 + 1) == 1) = false := by rw [beq_eq_false_iff_ne]; omega
    go_enter Try.func36, Try.ntmps36
    go_wp2_with (go_at_call 61; refine HR2.out.mono ?_; rintro e w' ⟨a, c, rfl, hb⟩)
    go_ret
    exact ⟨rfl, hb⟩

theorem SRep.get {w : World} {b : Nat} {s : St} {L : List Nat} (h : SRep w b s L) (k : ByteArray) : GetIs w (some ⟨b, 0, none⟩) k (s.val k) (getE s.ents k).isSome := get_any w b s L k h

theorem int_at (w : World) (b : Nat) (s : St) (L : List Nat) (k : ByteArray) (h : SRep w b s L) (hv : (s.val k).size < 1000000000000) : Calls Try.prog 36 #[.pointer (some ⟨b, 0, none⟩), .string k] w (RetInt w (s.int k)) :=
  intG_any w _ k _ _ (h.get k) hv

set_option maxHeartbeats 400000 in
theorem set_emptyK (w : World) (b : Nat) (v : ByteArray) (hc0 : w.cell? ⟨b, 0, none⟩ = some (.bool true)) : Calls Try.prog 15 #[.pointer (some ⟨b, 0, none⟩), .string emptyB, .string v] w fun e w' => e = .returned (.int .i64 2) ∧ w = w' := by
  unfold emptyB
  go_enter Try.func15, Try.ntmps15
  go_wp2_with (go_at_call 37; refine (is_at _ _ _ hc0).mono ?_; rintro e w' ⟨rfl, rfl⟩)
  go_ret
  exact ⟨rfl, rfl⟩

set_option maxHeartbeats 1000000 in
/-- put, on all its ways. -/
theorem putG_any (w : World) (b : Nat) (s : St) (L : List Nat) (k v : ByteArray) (h : SRep w b s L) (hb : s.size < 1000000000000) :
    Calls Try.prog 56 #[.pointer (some ⟨b, 0, none⟩), .string k, .string v] w (RetSt w b L (.tuple #[]) (s.put k v)) := by
  by_cases hv : v = emptyB
  · subst hv
    have e : s.put k emptyB = s.del k := by unfold St.put; rw [if_pos rfl]
    rw [e]
    have HS := Lib.hid (delete_any w b s L k h hb)
    have HQ : Hid (∀ e w', RetSt w b L (.bool (getE s.ents k).isSome) (s.del k) e w' → e = .returned (.bool (getE s.ents k).isSome) ∧ RetSt w b L (.tuple #[]) (s.del k) (.returned (.tuple #[])) w') := fun e w' h => ⟨h.1, rfl, h.2⟩
    generalize RetSt w b L (.tuple #[]) (s.del k) = R at *
    generalize RetSt w b L (.bool (getE s.ents k).isSome) (s.del k) = R0 at *
    unfold emptyB
    clear h hb e
    go_enter Try.func56, Try.ntmps56
    go_wp2_with (go_at_call 79; refine HS.out.mono ?_; intro e w' hR; obtain ⟨rfl, hR2⟩ := HQ.out _ _ hR)
    refine bodyPost_ret (results_none rfl _ _ _) rfl ?_
    exact hR2
  · by_cases hk : k = emptyB
    · subst hk
      have e : s.put emptyB v = s := by unfold St.put; rw [if_neg hv, if_pos rfl]
      rw [e]
      have HS := Lib.hid (set_emptyK w b v h.cell0)
      have HE : Hid (RetSt w b L (.tuple #[]) s (.returned (.tuple #[])) w) := ⟨rfl, L, h, Step.refl w L⟩
      generalize RetSt w b L (.tuple #[]) s = R at *
      have hv' := emptyK hv
      generalize emptyB = kk at *
      clear h hb e hv
      go_enter Try.func56, Try.ntmps56
      go_wp2_with (go_at_call 15; refine HS.out.mono ?_; rintro e w' ⟨rfl, rfl⟩)
      go_end0
      exact HE.out
    · have e : s.put k v = s.set k v := by unfold St.put; rw [if_neg hv, if_neg hk]
      rw [e]
      exact put_some w b s L k v h hk hv hb

set_option maxRecDepth 100000 in
set_option maxHeartbeats 1000000 in
theorem setIntG_any (w : World) (b : Nat) (s : St) (L : List Nat) (k : ByteArray) (n : Int) (hn : n < 9223372036854775808) (h : SRep w b s L) (hb : s.size < 1000000000000) :
    Calls Try.prog 34 #[.pointer (some ⟨b, 0, none⟩), .string k, .int .i64 n] w (RetSt w b L (.tuple #[]) (s.setInt k n)) := by
  have HP : ∀ v, Hid (∀ w1, Below w.heap.size w w1 → Calls Try.prog 56 #[.pointer (some ⟨b, 0, none⟩), .string k, .string v] w1 fun e w' => e = .returned (.tuple #[]) ∧ RetSt w b L (.tuple #[]) (s.put k v) e w') := fun v w1 h1 =>
    (putG_any w1 b s L k v (h.fr (Fr.of_below h1 (fun _ => False)) (fun _ _ => id)) hb).mono fun e w' h2 => ⟨h2.1, h2.of_below h1⟩
  by_cases h1 : n < 1
  · have e : s.setInt k n = s.put k emptyB := by unfold St.setInt; rw [if_pos h1]
    rw [e]
    have HP1 := HP emptyB
    have hd : decide (n < 1) = true := by simpa using h1
    unfold emptyB at *
    generalize RetSt w b L (.tuple #[]) (s.put k ⟨#[]⟩) = R at *
    clear h hb HP e
    go_enter Try.func34, Try.ntmps34
    go_wp2_with (go_at_call 56; refine (HP1.out _ (Below.refl _ _)).mono ?_; rintro e w' ⟨rfl, hR⟩)
    refine bodyPost_ret (results_none rfl _ _ _) rfl ?_
    exact hR
  · obtain ⟨m, rfl⟩ : ∃ m : Nat, n = m := ⟨n.toNat, by omega⟩
    have e : s.setInt k m = s.put k (numB m) := by unfold St.setInt; rw [if_neg h1, Int.toNat_natCast]
    rw [e]
    have HP1 := HP (numB m)
    have HN := Lib.hid (num_any m w (by omega))
    have hd : decide ((m : Int) < 1) = false := by simp; omega
    generalize RetSt w b L (.tuple #[]) (s.put k (numB m)) = R at *
    generalize numB m = nb at *
    clear h hb HP e
    go_enter Try.func34, Try.ntmps34
    go_wp2_with (first | (go_at_call 57; refine HN.out.mono ?_; rintro e w1 ⟨rfl, hb1⟩) | (go_at_call 56; refine (HP1.out _ hb1).mono ?_; rintro e w' ⟨rfl, hR⟩))
    go_end0
    exact hR
end Go.Proofs.Ytgnnnjabgoadaaa
