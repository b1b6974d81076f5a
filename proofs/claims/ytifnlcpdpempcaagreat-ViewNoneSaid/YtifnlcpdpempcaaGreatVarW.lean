/- What is proved here: octet's Var, written. Its condition: fewer than 10^11 bytes. the bytes of an empty store; chapter 37's examples are as it says. No condition. -/
import Derived.Test.YtifnlcpdpempcaaGreatCloneB
namespace Go.Proofs.YtifnlcpdpempcaaGreat
open Go.RowKit

/-- A number in groups of seven bits, as it is written. -/
def putVar (n : Nat) : List UInt8 := if n < 128 then [UInt8.ofNat n] else UInt8.ofNat (n % 128 + 128) :: putVar (n / 128)
termination_by n
decreasing_by omega

theorem putVar_small {n : Nat} (h : n < 128) : putVar n = [UInt8.ofNat n] := by rw [putVar, if_pos h]
theorem putVar_big {n : Nat} (h : ¬ n < 128) : putVar n = UInt8.ofNat (n % 128 + 128) :: putVar (n / 128) := by rw [putVar, if_neg h]
theorem putVar_len : ∀ (j n : Nat), n < 128 ^ j → 0 < j → 0 < (putVar n).length ∧ (putVar n).length ≤ j
  | 0, _, _, h => absurd h (by omega)
  | j + 1, n, h, _ => by
    by_cases hn : n < 128
    · rw [putVar_small hn]; simp
    · rw [putVar_big hn]
      have h1 : n / 128 < 128 ^ j := by
        rw [Nat.pow_succ] at h
        exact (Nat.div_lt_iff_lt_mul (by omega)).2 h
      have hj : 0 < j := by
        rcases Nat.eq_zero_or_pos j with rfl | h2
        · simp at h; omega
        · exact h2
      have := putVar_len j (n / 128) h1 hj
      simp; omega

/-- Bytes of the call's own. -/
def BytesAt (w wr : World) (v : Value) (l : List UInt8) : Prop := Own wr 5 1 v l.length (bytesV l) ∧ (∀ g, v.ownBlock = some g → w.heap.size ≤ g) ∧ Below w.heap.size w wr

theorem BytesAt.grow {w wr w1 : World} {v : Value} {l r : List UInt8} (h : BytesAt w wr v l) (hb : Below wr.heap.size wr w1) : Own w1 5 1 v l.length (bytesV l) ∧
    ∀ v' w', Appended w1 5 1 v l.length r.length (bytesV l) (bytesV r) v' w' → BytesAt w w' v' (l ++ r) := by
  obtain ⟨h1, h2, h3⟩ := h
  have hs := h3.size
  have hs1 := hb.size
  refine ⟨h1.frame (fun k hk => hb.block k (h1.lt k hk)), fun v' w' hA => ⟨?_, fun g hg => ?_, ?_⟩⟩
  · have e : bytesV (l ++ r) = bytesV l ++ bytesV r := List.map_append
    rw [e, List.length_append]
    exact hA.own
  · rcases hA.block g hg with h | h
    · exact h2 g h
    · omega
  · have h4 : Below w.heap.size w w1 := ⟨hb.os.trans h3.os, hb.tape.trans h3.tape, hb.output.trans h3.output, by omega, fun k hk => (hb.block k (by omega)).trans (h3.block k hk)⟩
    exact h4.grown hA.grown (by omega) h2

theorem BytesAt.one {w wr : World} {v : Value} {l : List UInt8} (h : BytesAt w wr v l) (b : Nat) (hb : b < 256) :
    Own (wr.alloc (.cells #[.int .u8 b] 5)) 5 1 v l.length (bytesV l) ∧ ∀ v' w', Appended (wr.alloc (.cells #[.int .u8 b] 5)) 5 1 v l.length 1 (bytesV l) [.int .u8 b] v' w' → BytesAt w w' v' (l ++ [UInt8.ofNat b]) := by
  have h1 := h.grow (r := [UInt8.ofNat b]) ((Below.refl _ wr).alloc (Nat.le_refl _) (.cells #[.int .u8 b] 5))
  have e : bytesV [UInt8.ofNat b] = [.int .u8 b] := by simp [bytesV]; omega
  rw [e] at h1
  exact h1

/-- A number in the writing. -/
def VarTo (w : World) (l : List UInt8) (k : Nat) (v : Value) (wr : World) : Prop := ∃ l', BytesAt w wr v l' ∧ l' ++ putVar k = l

theorem VarTo.form {w : World} {l : List UInt8} {k : Nat} {v : Value} {wr : World} (h : VarTo w l k v wr) : ∃ a n c, v = .slice a n c := by
  obtain ⟨l', h1, _⟩ := h
  obtain ⟨_, a, c, rfl, _⟩ := h1.1.src
  exact ⟨a, _, c, rfl⟩

theorem VarTo.next {w : World} {l : List UInt8} {k : Nat} {v : Value} {wr : World} (h : VarTo w l k v wr) (hk : ¬ k < 128) (hl : l.length < 1000000000000) : ∃ n xs, n < 1000000000000 ∧
    Own (wr.alloc (.cells #[.int .u8 (k % 128 + 128 : Nat)] 5)) 5 1 v n xs ∧ ∀ v' w', Appended (wr.alloc (.cells #[.int .u8 (k % 128 + 128 : Nat)] 5)) 5 1 v n 1 xs [.int .u8 (k % 128 + 128 : Nat)] v' w' → VarTo w l (k / 128) v' w' := by
  obtain ⟨l', h1, h2⟩ := h
  obtain ⟨h3, h4⟩ := h1.one (k % 128 + 128) (by omega)
  have hlen : l'.length ≤ l.length := by rw [← h2, List.length_append]; omega
  refine ⟨l'.length, _, by omega, h3, fun v' w' hA => ⟨_, h4 v' w' hA, ?_⟩⟩
  rw [← h2, putVar_big hk, List.append_assoc]; rfl

theorem VarTo.last {w : World} {l : List UInt8} {k : Nat} {v : Value} {wr : World} (h : VarTo w l k v wr) (hk : k < 128) (hl : l.length < 1000000000000) : ∃ n xs, n < 1000000000000 ∧
    Own (wr.alloc (.cells #[.int .u8 k] 5)) 5 1 v n xs ∧ ∀ v' w', Appended (wr.alloc (.cells #[.int .u8 k] 5)) 5 1 v n 1 xs [.int .u8 k] v' w' → RetBytes w l (.returned v') w' := by
  obtain ⟨l', h1, h2⟩ := h
  obtain ⟨h3, h4⟩ := h1.one k (by omega)
  have hlen : l'.length ≤ l.length := by rw [← h2, List.length_append]; omega
  refine ⟨l'.length, _, by omega, h3, fun v' w' hA => ?_⟩
  have h5 := h4 v' w' hA
  rw [putVar_small hk] at h2
  rw [h2] at h5
  exact ⟨v', rfl, h5⟩

set_option maxRecDepth 100000 in
theorem or128 (x : Nat) : bits BinOp.or IntKind.u8 ((x : Int) % 256) 128 = ((x % 128 + 128 : Nat) : Int) := by
  have : ∀ y : Fin 256, bits BinOp.or IntKind.u8 ((y.val : Nat) : Int) 128 = ((y.val % 128 + 128 : Nat) : Int) := by decide
  have h := this ⟨x % 256, Nat.mod_lt _ (by omega)⟩
  have e : (x % 256) % 128 = x % 128 := by omega
  simp only [e] at h
  rw [← h]; rfl

set_option maxRecDepth 100000 in
set_option maxHeartbeats 2000000 in
theorem varw_any (w : World) (y : Value) (l : List UInt8) (n : Nat) (h : Src w 1 y l.length (bytesV l)) (hl : l.length < 100000000000) (hn : n < 9223372036854775808) :
    Calls Tryz.prog 56 #[y, .int .i64 n] w (RetBytes w (l ++ putVar n)) := by
  have hlen : (l ++ putVar n).length < 1000000000000 := by
    have := (putVar_len 9 n (by have e : (128 : Nat) ^ 9 = 9223372036854775808 := by decide
                                omega) (by omega)).2
    rw [List.length_append]; omega
  have HC : Hid (Calls Tryz.prog 124 #[y] w fun e w' => ∃ v, e = .returned v ∧ VarTo w (l ++ putVar n) n v w') := (cloneB_any w y l h (by omega)).mono fun e w' ⟨v, he, hb⟩ => ⟨v, he, l, hb, rfl⟩
  obtain ⟨_, a0, c0, rfl, _⟩ := h
  generalize l.length = ln at *
  generalize l ++ putVar n = L at *
  go_enter Tryz.func56, Tryz.ntmps56
  go_wp2_with fail
  refine Calls.mono HC.out ?_
  rintro e w1 ⟨v, rfl, hT⟩
  have HT := Lib.hid hT
  obtain ⟨a1, n1, c1, rfl⟩ := hT.form
  clear hT HC
  go_wp2_with fail
  go_loopw [1, 5] (fun i v wr => ∃ k : Nat, i = .int .i64 k ∧ k ≤ n ∧ VarTo w L k v wr) (fun i _ _ => (intOf i).toNat)
  case atStart => exact ⟨n, by first | rfl | simp, by omega, HT.out⟩
  case round =>
    obtain ⟨k, rfl, hk, hT⟩ := hrel
    have HT2 := Lib.hid hT
    obtain ⟨a2, n2, c2, rfl⟩ := hT.form
    clear hT HT
    have hor := or128 k
    have hk0 : (0 : Int) ≤ (k : Int) := Int.natCast_nonneg _
    by_cases h128 : k < 128
    · obtain ⟨m, xs, hm, ho, hst⟩ := HT2.out.last h128 hlen
      have HO := Lib.hid ho
      have HST := Lib.hid hst
      have hd : decide ((128 : Int) ≤ (k : Int)) = false := decide_eq_false (by omega)
      have hwr : (k : Int) % 256 = (k : Int) := by omega
      clear ho hst
      go_wp2_with (at_builtin; refine wpList_append_Own rfl _ _ 87 87 rfl bytesT bytesT _ m xs rfl HO.out _ 1 _ [.int .u8 k] rfl rfl (news_one _ _ _) (one_u8 _) (by unfold maxLen; omega) (by omega) ?_)
      intro v' w' hA
      have hR := HST.out v' w' hA
      go_wp2
      go_ret
      exact hR
    · obtain ⟨m, xs, hm, ho, hst⟩ := HT2.out.next h128 hlen
      have HO := Lib.hid ho
      have HST := Lib.hid hst
      have hd : decide ((128 : Int) ≤ (k : Int)) = true := decide_eq_true (by omega)
      clear ho hst
      generalize hkk : k % 128 + 128 = kk at *
      go_wp2_with (at_builtin; refine wpList_append_Own rfl _ _ 87 87 rfl bytesT bytesT _ m xs rfl HO.out _ 1 _ [.int .u8 kk] rfl rfl (news_one _ _ _) (one_u8 _) (by unfold maxLen; omega) (by omega) ?_)
      intro v' w' hA
      have HR := Lib.hid (HST.out v' w' hA)
      clear hA
      go_wp2
      go_roundw
      case rel => exact ⟨k / 128, by go_num, by omega, HR.out⟩
      case measure => simp [intOf]; omega
end Go.Proofs.YtifnlcpdpempcaaGreat

namespace Go.Proofs.YtifnlcpdpempcaaGreat
open Go.RowKit

/-- Bytes are returned, of the call's own. -/
def RetB (w : World) (l : List UInt8) (e : Ending) (w' : World) : Prop := ∃ a c, e = .returned (.slice a l.length c) ∧ Own w' 5 1 (.slice a l.length c) l.length (bytesV l) ∧ Below w.heap.size w w'

set_option maxRecDepth 100000 in
set_option maxHeartbeats 2000000 in
theorem bytes_none (w : World) (q : Option Addr) (h : Calls Tryz.prog 22 #[.pointer q] w (RetPairs w [])) : Calls Tryz.prog 25 #[.pointer q] w (RetB w [0]) := by
  have HA : Hid (Calls Tryz.prog 22 #[.pointer q] w fun e w' => ∃ a c, e = .returned (.slice a 0 c) ∧
      Calls Tryz.prog 56 #[.slice none 0 0, .int .i64 0] w' fun e w2 => ∃ a c, e = .returned (.slice a 1 c) ∧ ∀ w3, Below w2.heap.size w2 w3 → RetB w [0] (.returned (.slice a 1 c)) w3) :=
    h.mono fun e w' ⟨v, he, hO⟩ => by
      obtain ⟨_, a, c, rfl, _⟩ := hO.1.src
      refine ⟨a, c, he, (varw_any w' (.slice none 0 0) [] 0 ⟨rfl, none, 0, rfl, fun j u hj => by cases hj⟩ (by simp) (by omega)).mono fun e w2 ⟨v2, he2, ho2, hf2, hb2⟩ => ?_⟩
      have e0 : [] ++ putVar 0 = [0] := by rw [putVar_small (by omega)]; rfl
      rw [e0] at ho2
      obtain ⟨_, a2, c2, rfl, _⟩ := ho2.src
      refine ⟨a2, c2, he2, fun w3 h3 => ⟨a2, c2, rfl, ho2.frame (fun k hk => h3.block k (ho2.lt k hk)), ?_⟩⟩
      have hb := hO.2.2
      have s1 := hb.size
      have s2 := hb2.size
      exact ⟨h3.os.trans (hb2.os.trans hb.os), h3.tape.trans (hb2.tape.trans hb.tape), h3.output.trans (hb2.output.trans hb.output), by have := h3.size; omega, fun k hk => (h3.block k (by omega)).trans ((hb2.block k (by omega)).trans (hb.block k hk))⟩
  generalize RetB w [0] = R at *
  clear h
  go_enter Tryz.func25, Tryz.ntmps25
  go_wp2_with fail
  refine Calls.mono HA.out ?_
  rintro e w1 ⟨a, c, rfl, hV⟩
  have HV := Lib.hid hV
  clear hV HA
  go_wp2_with fail
  refine Calls.mono HV.out ?_
  rintro e w2 ⟨a2, c2, rfl, hR⟩
  have HR := Lib.hid hR
  clear hR HV
  go_wp2_with fail
  go_loopw [15] (fun i wr => i = .int .i64 0 ∧ Below w2.heap.size w2 wr ∧ wr.cell? ⟨w2.heap.size, 0, none⟩ = some (.slice a2 1 c2)) (fun _ _ => 0)
  case atStart =>
    refine ⟨rfl, ?_, ?_⟩
    · exact (Below.refl _ w2).alloc (Nat.le_refl _) _
    · simp
  case round =>
    obtain ⟨rfl, hb, hc⟩ := hrel
    have hR := HR.out _ hb
    go_wp2_with fail
    exact hR

theorem bytes_nil (w : World) (b : Nat) (L : List Nat) (h : SRep w b emptySt L) : Calls Tryz.prog 25 #[.pointer (some ⟨b, 0, none⟩)] w (RetB w [0]) :=
  bytes_none w _ (all_any w b emptySt L h (by simp [emptySt, St.size]))

set_option maxRecDepth 100000 in
set_option maxHeartbeats 2000000 in
theorem lives37 (w : World) : Calls Tryz.prog 23 #[] w fun e w' => e = .returned (.bool true) ∧ Below w.heap.size w w' := by
  have HN : Hid (Calls Tryz.prog 26 #[] w fun e w' => ∃ b, e = .returned (.pointer (some ⟨b, 0, none⟩)) ∧ Calls Tryz.prog 25 #[.pointer (some ⟨b, 0, none⟩)] w' fun e w2 => ∃ a c, e = .returned (.slice a 1 c) ∧ (convert 87 9 (.slice a 1 c)).run Tryz.prog w2 = .ok (.string ⟨#[0]⟩) w2 ∧ Below w.heap.size w w2) :=
    (new_any w).mono fun e w' ⟨b, L, he, hS, hF, _⟩ => ⟨b, he, (bytes_nil w' b L hS).mono fun e w2 ⟨a, c, he2, ho, hb⟩ => ⟨a, c, he2, run_conv_any ho, by
      exact ⟨hb.os.trans hF.os, hb.tape.trans hF.tape, hb.output.trans hF.output, Nat.le_trans hF.size hb.size, fun k hk => (hb.block k (Nat.lt_of_lt_of_le hk hF.size)).trans (hF.block k hk (fun h => h))⟩⟩⟩
  go_enter Tryz.func23, Tryz.ntmps23
  go_wp2_with fail
  refine Calls.mono HN.out ?_
  rintro e w1 ⟨b, rfl, hB⟩
  have HB := Lib.hid hB
  clear hB HN
  go_wp2_with fail
  refine Calls.mono HB.out ?_
  rintro e w2 ⟨a, c, rfl, hcv, hb⟩
  have hb0 : ((⟨#[0]⟩ : ByteArray).toList == (⟨#[0]⟩ : ByteArray).toList) = true := by simp
  go_wp2
  go_ret
  exact ⟨rfl, hb⟩
end Go.Proofs.YtifnlcpdpempcaaGreat
