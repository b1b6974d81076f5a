/- What is proved here: octet's Var, written. Its condition: fewer than 10^11 bytes. the bytes of an empty store; chapter 37's examples are as it says. No condition. the walk of ViewLoads. No condition. -/
import Derived.Test.YtgnnnjabgoadaaaOct
import Derived.Test.YtgnnnjabgoadaaaUnder
import Derived.Test.YtgnnnjabgoadaaaRLoad
import Derived.Test.YtgnnnjabgoadaaaTwo
namespace Go.Proofs.Ytgnnnjabgoadaaa
open Go.RowKit

/-- A number in groups of seven bits, as it is written. -/
def putVar (n : Nat) : List UInt8 := if n < 128 then [UInt8.ofNat n] else UInt8.ofNat (n % 128 + 128) :: putVar (n / 128)
termination_by n
decreasing_by omega

theorem putVar_small {n : Nat} (h : n < 128) : putVar n = [UInt8.ofNat n] := by rw [putVar, if_pos h]
theorem putVar_big {n : Nat} (h : ¬ n < 128) : putVar n = UInt8.ofNat (n % 128 + 128) :: putVar (n / 128) := by rw [putVar, if_neg h]
theorem putVar_len : ∀ (j n : Nat), n < 128 ^ j → 0 < j → 0 < (putVar n).length ∧ (putVar n).length ≤ j
  | 0, _, _, h => absurd h (by omega)
  | j + 1, n, h, _ => by
    by_cases hn : n < 128
    · rw [putVar_small hn]; simp
    · rw [putVar_big hn]
      have h1 : n / 128 < 128 ^ j := by
        rw [Nat.pow_succ] at h
        exact (Nat.div_lt_iff_lt_mul (by omega)).2 h
      have hj : 0 < j := by
        rcases Nat.eq_zero_or_pos j with rfl | h2
        · simp at h; omega
        · exact h2
      have := putVar_len j (n / 128) h1 hj
      simp; omega

/-- Bytes of the call's own. -/
def BytesAt (w wr : World) (v : Value) (l : List UInt8) : Prop := Own wr 5 1 v l.length (bytesV l) ∧ (∀ g, v.ownBlock = some g → w.heap.size ≤ g) ∧ Below w.heap.size w wr

theorem BytesAt.grow {w wr w1 : World} {v : Value} {l r : List UInt8} (h : BytesAt w wr v l) (hb : Below wr.heap.size wr w1) : Own w1 5 1 v l.length (bytesV l) ∧
    ∀ v' w', Appended w1 5 1 v l.length r.length (bytesV l) (bytesV r) v' w' → BytesAt w w' v' (l ++ r) := by
  obtain ⟨h1, h2, h3⟩ := h
  have hs := h3.size
  have hs1 := hb.size
  refine ⟨h1.frame (fun k hk => hb.block k (h1.lt k hk)), fun v' w' hA => ⟨?_, fun g hg => ?_, ?_⟩⟩
  · have e : bytesV (l ++ r) = bytesV l ++ bytesV r := List.map_append
    rw [e, List.length_append]
    exact hA.own
  · rcases hA.block g hg with h | h
    · exact h2 g h
    · omega
  · have h4 : Below w.heap.size w w1 := ⟨hb.os.trans h3.os, hb.tape.trans h3.tape, hb.output.trans h3.output, by omega, fun k hk => (hb.block k (by omega)).trans (h3.block k hk)⟩
    exact h4.grown hA.grown (by omega) h2

theorem BytesAt.one {w wr : World} {v : Value} {l : List UInt8} (h : BytesAt w wr v l) (b : Nat) (hb : b < 256) :
    Own (wr.alloc (.cells #[.int .u8 b] 5)) 5 1 v l.length (bytesV l) ∧ ∀ v' w', Appended (wr.alloc (.cells #[.int .u8 b] 5)) 5 1 v l.length 1 (bytesV l) [.int .u8 b] v' w' → BytesAt w w' v' (l ++ [UInt8.ofNat b]) := by
  have h1 := h.grow (r := [UInt8.ofNat b]) ((Below.refl _ wr).alloc (Nat.le_refl _) (.cells #[.int .u8 b] 5))
  have e : bytesV [UInt8.ofNat b] = [.int .u8 b] := by simp [bytesV]; omega
  rw [e] at h1
  exact h1

/-- A number in the writing. -/
def VarTo (w : World) (l : List UInt8) (k : Nat) (v : Value) (wr : World) : Prop := ∃ l', BytesAt w wr v l' ∧ l' ++ putVar k = l

theorem VarTo.form {w : World} {l : List UInt8} {k : Nat} {v : Value} {wr : World} (h : VarTo w l k v wr) : ∃ a n c, v = .slice a n c := by
  obtain ⟨l', h1, _⟩ := h
  obtain ⟨_, a, c, rfl, _⟩ := h1.1.src
  exact ⟨a, _, c, rfl⟩

theorem VarTo.next {w : World} {l : List UInt8} {k : Nat} {v : Value} {wr : World} (h : VarTo w l k v wr) (hk : ¬ k < 128) (hl : l.length < 1000000000000) : ∃ n xs, n < 1000000000000 ∧
    Own (wr.alloc (.cells #[.int .u8 (k % 128 + 128 : Nat)] 5)) 5 1 v n xs ∧ ∀ v' w', Appended (wr.alloc (.cells #[.int .u8 (k % 128 + 128 : Nat)] 5)) 5 1 v n 1 xs [.int .u8 (k % 128 + 128 : Nat)] v' w' → VarTo w l (k / 128) v' w' := by
  obtain ⟨l', h1, h2⟩ := h
  obtain ⟨h3, h4⟩ := h1.one (k % 128 + 128) (by omega)
  have hlen : l'.length ≤ l.length := by rw [← h2, List.length_append]; omega
  refine ⟨l'.length, _, by omega, h3, fun v' w' hA => ⟨_, h4 v' w' hA, ?_⟩⟩
  rw [← h2, putVar_big hk, List.append_assoc]; rfl

theorem VarTo.last {w : World} {l : List UInt8} {k : Nat} {v : Value} {wr : World} (h : VarTo w l k v wr) (hk : k < 128) (hl : l.length < 1000000000000) : ∃ n xs, n < 1000000000000 ∧
    Own (wr.alloc (.cells #[.int .u8 k] 5)) 5 1 v n xs ∧ ∀ v' w', Appended (wr.alloc (.cells #[.int .u8 k] 5)) 5 1 v n 1 xs [.int .u8 k] v' w' → RetBytes w l (.returned v') w' := by
  obtain ⟨l', h1, h2⟩ := h
  obtain ⟨h3, h4⟩ := h1.one k (by omega)
  have hlen : l'.length ≤ l.length := by rw [← h2, List.length_append]; omega
  refine ⟨l'.length, _, by omega, h3, fun v' w' hA => ?_⟩
  have h5 := h4 v' w' hA
  rw [putVar_small hk] at h2
  rw [h2] at h5
  exact ⟨v', rfl, h5⟩

set_option maxRecDepth 100000 in
theorem or128 (x : Nat) : bits BinOp.or IntKind.u8 ((x : Int) % 256) 128 = ((x % 128 + 128 : Nat) : Int) := by
  have : ∀ y : Fin 256, bits BinOp.or IntKind.u8 ((y.val : Nat) : Int) 128 = ((y.val % 128 + 128 : Nat) : Int) := by decide
  have h := this ⟨x % 256, Nat.mod_lt _ (by omega)⟩
  have e : (x % 256) % 128 = x % 128 := by omega
  simp only [e] at h
  rw [← h]; rfl

set_option maxRecDepth 100000 in
set_option maxHeartbeats 2000000 in
theorem varw_any (w : World) (y : Value) (l : List UInt8) (n : Nat) (h : Src w 1 y l.length (bytesV l)) (hl : l.length < 100000000000) (hn : n < 9223372036854775808) :
    Calls Try.prog 45 #[y, .int .i64 n] w (RetBytes w (l ++ putVar n)) := by
  have hlen : (l ++ putVar n).length < 1000000000000 := by
    have := (putVar_len 9 n (by have e : (128 : Nat) ^ 9 = 9223372036854775808 := by decide
                                omega) (by omega)).2
    rw [List.length_append]; omega
  have HC : Hid (Calls Try.prog 64 #[y] w fun e w' => ∃ v, e = .returned v ∧ VarTo w (l ++ putVar n) n v w') := (cloneB_any w y l h (by omega)).mono fun e w' ⟨v, he, hb⟩ => ⟨v, he, l, hb, rfl⟩
  obtain ⟨_, a0, c0, rfl, _⟩ := h
  generalize l.length = ln at *
  generalize l ++ putVar n = L at *
  go_enter Try.func45, Try.ntmps45
  go_wp2_with fail
  refine Calls.mono HC.out ?_
  rintro e w1 ⟨v, rfl, hT⟩
  have HT := Lib.hid hT
  obtain ⟨a1, n1, c1, rfl⟩ := hT.form
  clear hT HC
  go_wp2_with fail
  go_loopw [1, 5] (fun i v wr => ∃ k : Nat, i = .int .i64 k ∧ k ≤ n ∧ VarTo w L k v wr) (fun i _ _ => (intOf i).toNat)
  case atStart => exact ⟨n, by first | rfl | simp, by omega, HT.out⟩
  case round =>
    obtain ⟨k, rfl, hk, hT⟩ := hrel
    have HT2 := Lib.hid hT
    obtain ⟨a2, n2, c2, rfl⟩ := hT.form
    clear hT HT
    have hor := or128 k
    have hk0 : (0 : Int) ≤ (k : Int) := Int.natCast_nonneg _
    by_cases h128 : k < 128
    · obtain ⟨m, xs, hm, ho, hst⟩ := HT2.out.last h128 hlen
      have HO := Lib.hid ho
      have HST := Lib.hid hst
      have hd : decide ((128 : Int) ≤ (k : Int)) = false := decide_eq_false (by omega)
      have hwr : (k : Int) % 256 = (k : Int) := by omega
      clear ho hst
      go_wp2_with (at_builtin; refine wpList_append_Own rfl _ _ 36 36 rfl bytesT bytesT _ m xs rfl HO.out _ 1 _ [.int .u8 k] rfl rfl (news_one _ _ _) (one_u8 _) (by unfold maxLen; omega) (by omega) ?_)
      intro v' w' hA
      have hR := HST.out v' w' hA
      go_wp2
      go_ret
      exact hR
    · obtain ⟨m, xs, hm, ho, hst⟩ := HT2.out.next h128 hlen
      have HO := Lib.hid ho
      have HST := Lib.hid hst
      have hd : decide ((128 : Int) ≤ (k : Int)) = true := decide_eq_true (by omega)
      clear ho hst
      generalize hkk : k % 128 + 128 = kk at *
      go_wp2_with (at_builtin; refine wpList_append_Own rfl _ _ 36 36 rfl bytesT bytesT _ m xs rfl HO.out _ 1 _ [.int .u8 kk] rfl rfl (news_one _ _ _) (one_u8 _) (by unfold maxLen; omega) (by omega) ?_)
      intro v' w' hA
      have HR := Lib.hid (HST.out v' w' hA)
      clear hA
      go_wp2
      go_roundw
      case rel => exact ⟨k / 128, by go_num, by omega, HR.out⟩
      case measure => simp [intOf]; omega
end Go.Proofs.Ytgnnnjabgoadaaa

namespace Go.Proofs.Ytgnnnjabgoadaaa
open Go.RowKit

/-- Bytes are returned, of the call's own. -/
def RetB (w : World) (l : List UInt8) (e : Ending) (w' : World) : Prop := ∃ a c, e = .returned (.slice a l.length c) ∧ Own w' 5 1 (.slice a l.length c) l.length (bytesV l) ∧ Below w.heap.size w w'

set_option maxRecDepth 100000 in
set_option maxHeartbeats 2000000 in
theorem bytes_nil (w : World) (b : Nat) (L : List Nat) (h : SRep w b emptySt L) : Calls Try.prog 17 #[.pointer (some ⟨b, 0, none⟩)] w (RetB w [0]) := by
  have HA : Hid (Calls Try.prog 19 #[.pointer (some ⟨b, 0, none⟩)] w fun e w' => ∃ a c, e = .returned (.slice a 0 c) ∧
      Calls Try.prog 45 #[.slice none 0 0, .int .i64 0] w' fun e w2 => ∃ a c, e = .returned (.slice a 1 c) ∧ ∀ w3, Below w2.heap.size w2 w3 → RetB w [0] (.returned (.slice a 1 c)) w3) :=
    (all_any w b emptySt L h (by simp [emptySt, St.size])).mono fun e w' ⟨v, he, hO⟩ => by
      obtain ⟨_, a, c, rfl, _⟩ := hO.1.src
      refine ⟨a, c, he, (varw_any w' (.slice none 0 0) [] 0 ⟨rfl, none, 0, rfl, fun j u hj => by cases hj⟩ (by simp) (by omega)).mono fun e w2 ⟨v2, he2, ho2, hf2, hb2⟩ => ?_⟩
      have e0 : [] ++ putVar 0 = [0] := by rw [putVar_small (by omega)]; rfl
      rw [e0] at ho2
      obtain ⟨_, a2, c2, rfl, _⟩ := ho2.src
      refine ⟨a2, c2, he2, fun w3 h3 => ⟨a2, c2, rfl, ho2.frame (fun k hk => h3.block k (ho2.lt k hk)), ?_⟩⟩
      have hb := hO.2.2
      have s1 := hb.size
      have s2 := hb2.size
      exact ⟨h3.os.trans (hb2.os.trans hb.os), h3.tape.trans (hb2.tape.trans hb.tape), h3.output.trans (hb2.output.trans hb.output), by have := h3.size; omega, fun k hk => (h3.block k (by omega)).trans ((hb2.block k (by omega)).trans (hb.block k hk))⟩
  generalize RetB w [0] = R at *
  clear h
  go_enter Try.func17, Try.ntmps17
  go_wp2_with fail
  refine Calls.mono HA.out ?_
  rintro e w1 ⟨a, c, rfl, hV⟩
  have HV := Lib.hid hV
  clear hV HA
  go_wp2_with fail
  refine Calls.mono HV.out ?_
  rintro e w2 ⟨a2, c2, rfl, hR⟩
  have HR := Lib.hid hR
  clear hR HV
  go_wp2_with fail
  go_loopw [15] (fun i wr => i = .int .i64 0 ∧ Below w2.heap.size w2 wr ∧ wr.cell? ⟨w2.heap.size, 0, none⟩ = some (.slice a2 1 c2)) (fun _ _ => 0)
  case atStart =>
    refine ⟨rfl, ?_, ?_⟩
    · exact (Below.refl _ w2).alloc (Nat.le_refl _) _
    · simp
  case round =>
    obtain ⟨rfl, hb, hc⟩ := hrel
    have hR := HR.out _ hb
    go_wp2_with fail
    exact hR

set_option maxRecDepth 100000 in
set_option maxHeartbeats 2000000 in
theorem lives37 (w : World) : Calls Try.prog 13 #[] w fun e w' => e = .returned (.bool true) ∧ Below w.heap.size w w' := by
  have HN : Hid (Calls Try.prog 14 #[] w fun e w' => ∃ b, e = .returned (.pointer (some ⟨b, 0, none⟩)) ∧ Calls Try.prog 17 #[.pointer (some ⟨b, 0, none⟩)] w' fun e w2 => ∃ a c, e = .returned (.slice a 1 c) ∧ (convert 36 9 (.slice a 1 c)).run Try.prog w2 = .ok (.string ⟨#[0]⟩) w2 ∧ Below w.heap.size w w2) :=
    (new_any w).mono fun e w' ⟨b, L, he, hS, hF, _⟩ => ⟨b, he, (bytes_nil w' b L hS).mono fun e w2 ⟨a, c, he2, ho, hb⟩ => ⟨a, c, he2, run_conv_any ho, by
      exact ⟨hb.os.trans hF.os, hb.tape.trans hF.tape, hb.output.trans hF.output, Nat.le_trans hF.size hb.size, fun k hk => (hb.block k (Nat.lt_of_lt_of_le hk hF.size)).trans (hF.block k hk (fun h => h))⟩⟩⟩
  go_enter Try.func13, Try.ntmps13
  go_wp2_with fail
  refine Calls.mono HN.out ?_
  rintro e w1 ⟨b, rfl, hB⟩
  have HB := Lib.hid hB
  clear hB HN
  go_wp2_with fail
  refine Calls.mono HB.out ?_
  rintro e w2 ⟨a, c, rfl, hcv, hb⟩
  have hb0 : ((⟨#[0]⟩ : ByteArray).toList == (⟨#[0]⟩ : ByteArray).toList) = true := by simp
  go_wp2
  go_ret
  exact ⟨rfl, hb⟩
end Go.Proofs.Ytgnnnjabgoadaaa

namespace Go.Proofs.Ytgnnnjabgoadaaa
open Go.RowKit

theorem loadN_err : ∀ {n : Nat} {l : List UInt8} {last : ByteArray} {acc : List Ent} {x : Nat}, loadN n l last acc = .error x → x ≠ 0
  | 0, l, _, _, x, h => by
    rw [loadN] at h
    split at h
    · cases h
    · cases h; omega
  | n + 1, l, last, acc, x, h => by
    rw [loadN] at h
    split at h
    · rename_i e he
      cases h
      rcases textL_err he with h | h | h <;> omega
    · split at h
      · cases h; omega
      · split at h
        · rename_i e he
          cases h
          rcases textL_err he with h | h | h <;> omega
        · exact loadN_err h

theorem loadN_len : ∀ {n : Nat} {l : List UInt8} {last : ByteArray} {acc r : List Ent}, loadN n l last acc = .ok r → r.length ≤ acc.length + n
  | 0, l, _, _, r, h => by
    rw [loadN] at h
    split at h
    · cases h; omega
    · cases h
  | n + 1, l, last, acc, r, h => by
    rw [loadN] at h
    split at h
    · cases h
    · split at h
      · cases h
      · split at h
        · cases h
        · have := loadN_len h
          simp at this
          omega

theorem loadE_err {l : List UInt8} {x : Nat} (h : loadE l = .error x) : x ≠ 0 := by
  unfold loadE at h
  split at h
  · rename_i e he
    cases h
    rcases varL_err he with h | h | h <;> omega
  · exact loadN_err h
theorem loadE_len {l : List UInt8} {r : List Ent} (h : loadE l = .ok r) : r.length ≤ 1073741824 := by
  unfold loadE at h
  split at h
  · cases h
  · rename_i n r' he
    have h1 := loadN_len h
    have h2 := (varL_len he).2
    simp at h1
    omega

theorem below_then {w w1 w2 : World} (h : Below w.heap.size w w1) (h2 : Below w1.heap.size w1 w2) : Below w.heap.size w w2 :=
  ⟨h2.os.trans h.os, h2.tape.trans h.tape, h2.output.trans h.output, Nat.le_trans h.size h2.size, fun k hk => (h2.block k (Nat.lt_of_lt_of_le hk h.size)).trans (h.block k hk)⟩

theorem loads_bad (w : World) (a : Option Addr) (c : Nat) (l : List UInt8) (h : Src w 1 (.slice a l.length c) l.length (bytesV l)) (hc : l.length ≤ c) (hl : l.length < 100000000000) (x : Nat) (hx : loadE l = .error x) :
    Calls Try.prog 16 #[.slice a l.length c] w fun en w1 => en = .returned (.tuple #[.pointer none, .int .i64 x]) ∧ Calls Try.prog 20 #[.slice a l.length c] w1 fun en w2 => en = .returned (.tuple #[.slice none 0 0, .int .i64 x]) ∧
      Calls Try.prog 13 #[] w2 fun en w3 => en = .returned (.bool true) ∧ Below w.heap.size w w3 := by
  refine (load_any w _ l h hl).mono fun en w1 ⟨hb, he⟩ => ?_
  rw [hx] at he
  refine ⟨he, (rload_any w1 a c l (h.below hb) hc hl).mono fun en w2 ⟨hb2, he2⟩ => ?_⟩
  rw [hx] at he2
  exact ⟨he2, (lives37 w2).mono fun en w3 ⟨he3, hb3⟩ => ⟨he3, below_then (below_then hb hb2) hb3⟩⟩

theorem loads_good (w : World) (a : Option Addr) (c : Nat) (l : List UInt8) (h : Src w 1 (.slice a l.length c) l.length (bytesV l)) (hc : l.length ≤ c) (hl : l.length < 100000000000) (r : List Ent) (hx : loadE l = .ok r) :
    Calls Try.prog 16 #[.slice a l.length c] w fun en w1 => ∃ b, en = .returned (.tuple #[.pointer (some ⟨b, 0, none⟩), .int .i64 0]) ∧ Calls Try.prog 20 #[.slice a l.length c] w1 fun en w2 => ∃ a2 n2 c2, en = .returned (.tuple #[.slice a2 n2 c2, .int .i64 0]) ∧
      Calls Try.prog 19 #[.pointer (some ⟨b, 0, none⟩)] w2 fun en w3 => ∃ a1 n1 c1, en = .returned (.slice a1 n1 c1) ∧
      Calls Try.prog 18 #[.slice a1 n1 c1, .slice a2 n2 c2] w3 fun en w4 => en = .returned (.bool true) ∧
      Calls Try.prog 21 #[.pointer (some ⟨b, 0, none⟩)] w4 fun en w5 => en = .returned (.int .i64 0) ∧
      Calls Try.prog 13 #[] w5 fun en w6 => en = .returned (.bool true) ∧ Below w.heap.size w w6 := by
  have hlen := loadE_len hx
  refine (load_any w _ l h hl).mono fun en w1 ⟨hb, he⟩ => ?_
  rw [hx] at he
  obtain ⟨b, L, he, hS, _⟩ := he
  refine ⟨b, he, (rload_any w1 a c l (h.below hb) hc hl).mono fun en w2 ⟨hb2, he2⟩ => ?_⟩
  rw [hx] at he2
  obtain ⟨v2, he2, ho2⟩ := he2
  obtain ⟨a2, c2, rfl, hp2⟩ := ho2.pairs
  have hS2 : SRep w2 b ⟨r, []⟩ L := hS.fr (Fr.of_below hb2 (fun _ => False)) (fun _ _ h => h)
  refine ⟨a2, _, c2, he2, (all_any w2 b ⟨r, []⟩ L hS2 (by simp [St.size]; omega)).mono fun en w3 ⟨v3, he3, hO⟩ => ?_⟩
  obtain ⟨a1, c1, rfl, hp1⟩ := hO.1.pairs
  have hb3 := hO.2.2
  have hS3 : SRep w3 b ⟨r, []⟩ L := hS2.fr (Fr.of_below hb3 (fun _ => False)) (fun _ _ h => h)
  have hp3 : PairsAt w3 a2 r := (ho2.frame (fun k hk => hb3.block k (ho2.lt k hk))).pairs.elim fun a' h => by
    obtain ⟨c', e, hp⟩ := h
    cases e; exact hp
  refine ⟨a1, _, c1, he3, (same_any w3 a1 a2 c1 c2 r r hp1 hp3 (by omega)).mono fun en w4 ⟨he4, n, hw4⟩ => ?_⟩
  subst hw4
  have hb4 : Below w3.heap.size w3 (w3.drewN n) := below_drewN (Below.refl _ w3) n
  have hS4 : SRep (w3.drewN n) b ⟨r, []⟩ L := hS3.fr (Fr.of_below hb4 (fun _ => False)) (fun _ _ h => h)
  refine ⟨by rw [he4]; simp, (mark_any _ b ⟨r, []⟩ L hS4).mono fun en w5 ⟨he5, hw5⟩ => ?_⟩
  subst hw5
  exact ⟨he5, (lives37 _).mono fun en w6 ⟨he6, hb6⟩ => ⟨he6, below_then (below_then (below_then (below_then hb hb2) hb3) hb4) hb6⟩⟩

set_option maxRecDepth 100000 in
set_option maxHeartbeats 4000000 in
theorem loads_walk (w : World) (a : Option Addr) (c : Nat) (l : List UInt8) (h : Src w 1 (.slice a l.length c) l.length (bytesV l)) (hc : l.length ≤ c) : Calls Try.prog 5 #[.slice a l.length c] w fun e w' => e = .returned (.bool true) ∧ Below w.heap.size w w' := by
  by_cases hbig : 5000 < l.length
  · have hd : decide ((5000 : Int) < (l.length : Int)) = true := decide_eq_true (by omega)
    have HL := Lib.hid (lives37 w)
    generalize l.length = n at *
    clear h
    go_enter Try.func5, Try.ntmps5
    go_wp2_with (go_at_call 13; refine HL.out.mono ?_; rintro e w1 ⟨rfl, h1⟩)
    go_ret
    exact ⟨rfl, h1⟩
  · have hd : decide ((5000 : Int) < (l.length : Int)) = false := decide_eq_false (by omega)
    cases hx : loadE l with
    | error x =>
      have HC := Lib.hid (loads_bad w a c l h hc (by omega) x hx)
      have hx0 := loadE_err hx
      have hxb : ((x : Int) == 0) = false := by rw [beq_eq_false_iff_ne]; omega
      have hxx : ((x : Int) == (x : Int)) = true := by simp
      clear h hx
      generalize l.length = n at *
      go_enter Try.func5, Try.ntmps5
      go_wp2_with fail
      refine Calls.mono HC.out ?_
      rintro e w1 ⟨rfl, hC⟩
      have HC2 := Lib.hid hC
      clear hC HC
      go_wp2_with fail
      refine Calls.mono HC2.out ?_
      rintro e w2 ⟨rfl, hC⟩
      have HC3 := Lib.hid hC
      clear hC HC2
      go_wp2_with fail
      refine Calls.mono HC3.out ?_
      rintro e w3 ⟨rfl, hB⟩
      go_wp2
      go_ret
      exact ⟨rfl, hB⟩
    | ok r =>
      have HC := Lib.hid (loads_good w a c l h hc (by omega) r hx)
      clear h hx
      generalize l.length = n at *
      go_enter Try.func5, Try.ntmps5
      go_wp2_with fail
      refine Calls.mono HC.out ?_
      rintro e w1 ⟨b, rfl, hC⟩
      have HC2 := Lib.hid hC
      clear hC HC
      go_wp2_with fail
      refine Calls.mono HC2.out ?_
      rintro e w2 ⟨a2, n2, c2, rfl, hC⟩
      have HC3 := Lib.hid hC
      clear hC HC2
      go_wp2_with fail
      refine Calls.mono HC3.out ?_
      rintro e w3 ⟨a1, n1, c1, rfl, hC⟩
      have HC4 := Lib.hid hC
      clear hC HC3
      go_wp2_with fail
      refine Calls.mono HC4.out ?_
      rintro e w4 ⟨rfl, hC⟩
      have HC5 := Lib.hid hC
      clear hC HC4
      go_wp2_with fail
      refine Calls.mono HC5.out ?_
      rintro e w5 ⟨rfl, hC⟩
      have HC6 := Lib.hid hC
      clear hC HC5
      go_wp2_with fail
      refine Calls.mono HC6.out ?_
      rintro e w6 ⟨rfl, hB⟩
      go_wp2
      go_ret
      exact ⟨rfl, hB⟩
end Go.Proofs.Ytgnnnjabgoadaaa
