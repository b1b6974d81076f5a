/- What is proved here: the reference's Row, Int and SetInt over its store. Their conditions: a value shorter than 10^12 bytes; fewer than 10^12 entries and changes. -/
import Derived.Test.YtgnnnjabgoadaaaCellG
import Derived.Test.YtgnnnjabgoadaaaRSet
import Derived.Test.YtgnnnjabgoadaaaRNums
import Derived.Test.YtgnnnjabgoadaaaRNum
namespace Go.Proofs.Ytgnnnjabgoadaaa
open Go.RowKit

/-- The reference's Get's answer. -/
def RGetIs (w : World) (b : Nat) (k v : ByteArray) (ok : Bool) : Prop := Calls Try.prog 93 #[.pointer (some ⟨b, 0, none⟩), .string k] w fun e w' => e = .returned (.tuple #[.string v, .bool ok]) ∧ w = w'

set_option maxRecDepth 100000 in
set_option maxHeartbeats 1000000 in
theorem rrowG_any (w : World) (b : Nat) (k v : ByteArray) (ok : Bool) (hG : RGetIs w b k v ok) (hv : v.size < 1000000000000) : Calls Try.prog 77 #[.pointer (some ⟨b, 0, none⟩), .string k] w (RetRowG w (rowOf v)) := by
  have HG := Lib.hid hG
  have HN := Lib.hid (rnums_any v hv w)
  have HE0 : Hid (∀ w', numsL v.data.toList = none → Below w.heap.size w w' → RetRowG w (rowOf v) (.returned (.slice none 0 0)) w') := fun w' h hb => by
    have : rowOf v = [] := by unfold rowOf; rw [h]; rfl
    rw [this]
    exact ⟨_, rfl, Own.nil _ _ _, fun g hg => by simp [Value.ownBlock] at hg, hb⟩
  have HE1 : Hid (∀ w' ns u, numsL v.data.toList = some ns → Below w.heap.size w w' → Own w' 3 1 u ns.length (ns.map fun (n : Nat) => Value.int .i64 n) → (∀ k, u.ownBlock = some k → w.heap.size ≤ k) → RetRowG w (rowOf v) (.returned u) w') := fun w' ns u h hb ho hf => by
    have : rowOf v = ns := by unfold rowOf; rw [h]; rfl
    rw [this]
    exact ⟨_, rfl, ho, hf, hb⟩
  generalize RetRowG w (rowOf v) = R at *
  clear hG
  cases hn : numsL v.data.toList with
  | none =>
    rw [hn] at HN
    have HN2 : Hid (Calls Try.prog 95 #[.string v] w fun e w' => e = .returned (.tuple #[.slice none 0 0, .bool false]) ∧ Below w.heap.size w w') := HN.out.mono fun e w' h => ⟨h.2, h.1⟩
    have HEE := Lib.hid (fun w' => HE0.out w' hn)
    clear hn HN HE0 HE1
    go_enter Try.func77, Try.ntmps77
    go_wp2_with (first | (go_at_call 93; refine Calls.mono HG.out ?_; rintro e w' ⟨rfl, rfl⟩) | (go_at_call 95; refine Calls.mono HN2.out ?_; rintro e w' ⟨rfl, hb⟩))
    exact HEE.out _ hb
  | some ns =>
    rw [hn] at HN
    have HN2 : Hid (Calls Try.prog 95 #[.string v] w fun e w' => ∃ a c, e = .returned (.tuple #[.slice a ns.length c, .bool true]) ∧ R (.returned (.slice a ns.length c)) w') := HN.out.mono fun e w' h => by
      obtain ⟨hb, u, rfl, ho, hf⟩ := h
      obtain ⟨a, c, hu, _⟩ := ho.form
      subst hu
      exact ⟨a, c, rfl, HE1.out w' ns _ hn hb ho hf⟩
    clear hn HN HE0 HE1
    generalize ns.length = n at *
    go_enter Try.func77, Try.ntmps77
    go_wp2_with (first | (go_at_call 93; refine Calls.mono HG.out ?_; rintro e w' ⟨rfl, rfl⟩) | (go_at_call 95; refine Calls.mono HN2.out ?_; rintro e w' ⟨a, c, rfl, hR⟩))
    exact hR

set_option maxRecDepth 100000 in
set_option maxHeartbeats 1000000 in
theorem rintG_any (w : World) (b : Nat) (k v : ByteArray) (ok : Bool) (hG : RGetIs w b k v ok) (hv : v.size < 1000000000000) : Calls Try.prog 53 #[.pointer (some ⟨b, 0, none⟩), .string k] w (RetInt w (intOfV v)) := by
  have HR := Lib.hid (rrowG_any w b k v ok hG hv)
  clear hG
  unfold intOfV
  match hr : rowOf v with
  | [] =>
    rw [hr] at HR
    have HR2 : Hid (Calls Try.prog 77 #[.pointer (some ⟨b, 0, none⟩), .string k] w fun e w' => ∃ a c, e = .returned (.slice a 0 c) ∧ Below w.heap.size w w') := HR.out.mono fun e w' ⟨v, h1, ho, _, hb⟩ => by
      obtain ⟨a, c, rfl, _⟩ := ho.form
      exact ⟨a, c, h1, hb⟩
    clear HR hr
    go_enter Try.func53, Try.ntmps53
    go_wp2_with (go_at_call 77; refine HR2.out.mono ?_; rintro e w' ⟨a, c, rfl, hb⟩)
    go_ret
    exact ⟨rfl, hb⟩
  | [n] =>
    rw [hr] at HR
    have HR2 : Hid (Calls Try.prog 77 #[.pointer (some ⟨b, 0, none⟩), .string k] w fun e w' => ∃ g c, e = .returned (.slice (some ⟨g, 0, none⟩) 1 c) ∧ w'.cell? ⟨g, 0, none⟩ = some (.int .i64 n) ∧ Below w.heap.size w w') := HR.out.mono fun e w' ⟨v, h1, ho, _, hb⟩ => by
      obtain ⟨a, c, rfl, hc⟩ := ho.form
      obtain ⟨g, rfl, hc0⟩ := hc 0 (.int .i64 n) rfl
      exact ⟨g, c, h1, hc0, hb⟩
    clear HR hr
    go_enter Try.func53, Try.ntmps53
    go_wp2_with (go_at_call 77; refine HR2.out.mono ?_; rintro e w' ⟨g, c, rfl, hc, hb⟩)
    go_ret
    exact ⟨rfl, hb⟩
  | x :: y :: l =>
    rw [hr] at HR
    have HR2 : Hid (Calls Try.prog 77 #[.pointer (some ⟨b, 0, none⟩), .string k] w fun e w' => ∃ a c, e = .returned (.slice a (l.length + 1 + 1) c) ∧ Below w.heap.size w w') := HR.out.mono fun e w' ⟨v, h1, ho, _, hb⟩ => by
      obtain ⟨a, c, rfl, _⟩ := ho.form
      exact ⟨a, c, h1, hb⟩
    clear HR hr
    have hne : (((l.length : Int) + 1 + 1) != 1) = true := by rw [bne_iff_ne]; omega
    go_enter Try.func53, Try.ntmps53
    go_wp2_with (go_at_call 77; refine HR2.out.mono ?_; rintro e w' ⟨a, c, rfl, hb⟩)
    go_ret
    exact ⟨rfl, hb⟩

theorem rint_at (w : World) (b : Nat) (s : St) (L : List Nat) (k : ByteArray) (h : RRep w b s L) (hv : (s.val k).size < 1000000000000) (hn : s.size < 1000000000000) : Calls Try.prog 53 #[.pointer (some ⟨b, 0, none⟩), .string k] w (RetInt w (s.int k)) :=
  rintG_any w b k _ _ (rget_any w b s L k h (by unfold St.size at hn; omega)) hv

theorem RetR.of_below {w w1 : World} {b : Nat} {L : List Nat} {v : Value} {s' : St} {e : Ending} {w' : World} (hb : Below w.heap.size w w1) (h : RetR w1 b L v s' e w') : RetR w b L v s' e w' := by
  obtain ⟨he, L', h1, h2⟩ := h
  exact ⟨he, L', h1, (Step.mk (Fr.of_below hb _) fun _ h => .inl h).trans h2⟩

set_option maxRecDepth 100000 in
set_option maxHeartbeats 1000000 in
theorem rsetInt_any (w : World) (b : Nat) (s : St) (L : List Nat) (k : ByteArray) (n : Int) (hn : n < 9223372036854775808) (h : RRep w b s L) (hb : s.size < 1000000000000) :
    Calls Try.prog 51 #[.pointer (some ⟨b, 0, none⟩), .string k, .int .i64 n] w (RetR w b L (.tuple #[]) (s.setInt k n)) := by
  by_cases h1 : n < 1
  · have e : s.setInt k n = s.del k := by unfold St.setInt St.put; rw [if_pos h1, if_pos rfl]
    rw [e]
    have HD : Hid (Calls Try.prog 74 #[.pointer (some ⟨b, 0, none⟩), .string k] w fun e w' => e = .returned (.bool (getE s.ents k).isSome) ∧ RetR w b L (.tuple #[]) (s.del k) (.returned (.tuple #[])) w') := (rdelete_any w b s L k h hb).mono fun e w' h => ⟨h.1, rfl, h.2⟩
    have hd : decide (n < 1) = true := by simpa using h1
    generalize RetR w b L (.tuple #[]) (s.del k) = R at *
    clear h hb e
    go_enter Try.func51, Try.ntmps51
    go_wp2_with (go_at_call 74; refine HD.out.mono ?_; rintro e w' ⟨rfl, hR⟩)
    refine bodyPost_ret (results_none rfl _ _ _) rfl ?_
    exact hR
  · obtain ⟨m, rfl⟩ : ∃ m : Nat, n = m := ⟨n.toNat, by omega⟩
    have HS : Hid (∀ w1, Below w.heap.size w w1 → Calls Try.prog 75 #[.pointer (some ⟨b, 0, none⟩), .string k, .string (numB m)] w1 fun e w' => ∃ x : Int, e = .returned (.int .i64 x) ∧ RetR w b L (.tuple #[]) (s.setInt k m) (.returned (.tuple #[])) w') := fun w1 hb1 => by
      have h1' := h.below hb1
      have e : s.setInt k m = (if k = emptyB then s else s.set k (numB m)) := by
        unfold St.setInt St.put; rw [if_neg h1, Int.toNat_natCast, if_neg (numB_ne m)]
      rw [e]
      by_cases hk : k = emptyB
      · subst hk
        rw [if_pos rfl]
        refine (rset_empty w1 b (numB m)).mono fun e w' ⟨he, hw⟩ => ?_
        subst hw
        exact ⟨2, he, RetR.of_below hb1 ⟨rfl, L, h1', Step.refl _ _⟩⟩
      · rw [if_neg hk]
        exact (rset_any w1 b s L k (numB m) h1' hk hb).mono fun e w' h2 => ⟨0, h2.1, RetR.of_below hb1 ⟨rfl, h2.2⟩⟩
    have HN := Lib.hid (rnum_any m w (by omega))
    have hd : decide ((m : Int) < 1) = false := by simp; omega
    generalize RetR w b L (.tuple #[]) (s.setInt k m) = R at *
    generalize numB m = nb at *
    clear h hb
    go_enter Try.func51, Try.ntmps51
    go_wp2_with (first | (go_at_call 76; refine HN.out.mono ?_; rintro e w1 ⟨rfl, hb1⟩) | (go_at_call 75; refine (HS.out _ hb1).mono ?_; rintro e w' ⟨x, rfl, hR⟩))
    go_end0
    exact hR
end Go.Proofs.Ytgnnnjabgoadaaa
