/- What is proved here: keys.Parse and the reference's own, at any key. Their condition: a key shorter than 10^12 bytes. -/
import Derived.Test.YtnblhjndngpbnaaGreatRNum
namespace Go.Proofs.YtnblhjndngpbnaaGreat
open Go.RowKit

/-- A key's table and numbers. -/
def parseL : List UInt8 → Option (Nat × List Nat)
  | [] => none
  | t :: r => if t = 0 then none else (numsL r).map fun ns => (t.toNat, ns)
def parseK (k : ByteArray) : Option (Nat × List Nat) := parseL k.data.toList

/-- What Parse returns. -/
def RetParse (w : World) (R : Option (Nat × List Nat)) (e : Ending) (w' : World) : Prop := Below w.heap.size w w' ∧
  match R with
  | some (t, ns) => ∃ v, e = .returned (.tuple #[.int .i64 t, v, .bool true]) ∧ Own w' 3 1 v ns.length (ns.map fun (n : Nat) => Value.int .i64 n) ∧ ∀ k, v.ownBlock = some k → w.heap.size ≤ k
  | none => e = .returned (.tuple #[.int .i64 0, .slice none 0 0, .bool false])

theorem extract_tail (k : ByteArray) : (k.extract 1 k.size).data.toList = k.data.toList.drop 1 := by
  have h : (k.extract 1 k.size).data = k.data.extract 1 k.size := by simp [ByteArray.data_extract]
  rw [h]
  have e : k.size = k.data.toList.length := by rw [Array.length_toList]; rfl
  rw [e]
  simp
  rw [List.take_of_length_le (by rw [List.length_tail, e, Array.length_toList]; simp)]

theorem parseK_zero (k : ByteArray) (h : k.size = 0) : parseK k = none := by
  obtain ⟨⟨l⟩⟩ := k
  cases l with
  | nil => rfl
  | cons x r => simp [ByteArray.size] at h

theorem parseK_some (k : ByteArray) (h : 0 < k.size) : parseK k = if ((k[0]'h).toNat : Int) = 0 then none else (numsL (k.extract 1 k.size).data.toList).map fun ns => ((k[0]'h).toNat, ns) := by
  rw [extract_tail]
  obtain ⟨⟨l⟩⟩ := k
  cases l with
  | nil => simp [ByteArray.size] at h
  | cons x r =>
    show (if x = 0 then none else (numsL r).map fun ns => (x.toNat, ns)) = if ((x.toNat : Nat) : Int) = 0 then none else (numsL r).map fun ns => (x.toNat, ns)
    by_cases hx : x = 0
    · subst hx; rfl
    · rw [if_neg hx, if_neg (fun e => hx (by apply UInt8.toNat_inj.1; show x.toNat = 0; omega))]

theorem isEmpty_pos (k : ByteArray) (h : 0 < k.size) : k.toList.isEmpty = false := by
  rw [ByteArray.toList_eq]
  obtain ⟨⟨l⟩⟩ := k
  cases l with
  | nil => simp [ByteArray.size] at h
  | cons x r => rfl

set_option maxRecDepth 100000 in
set_option maxHeartbeats 2000000 in
theorem parse_any (k : ByteArray) (hk : k.size < 1000000000000) (w : World) : Calls Tryz.prog 37 #[.string k] w (RetParse w (parseK k)) := by
  by_cases h0 : k.size = 0
  · have HE : Hid (RetParse w (parseK k) (.returned (.tuple #[.int .i64 0, .slice none 0 0, .bool false])) w) := by
      rw [parseK_zero k h0]; exact ⟨Below.refl _ _, rfl⟩
    obtain rfl : k = ⟨#[]⟩ := by
      obtain ⟨⟨l⟩⟩ := k
      cases l with
      | nil => rfl
      | cons x r => simp [ByteArray.size] at h0
    generalize RetParse w (parseK ⟨#[]⟩) = R at *
    clear h0 hk
    go_enter Tryz.func37, Tryz.ntmps37
    go_wp2_with fail
    exact HE.out
  · have hlt : 0 < k.size := by omega
    have he := isEmpty_pos k hlt
    have hP := parseK_some k hlt
    by_cases hz : ((k[0]'hlt).toNat : Int) = 0
    · have HE : Hid (RetParse w (parseK k) (.returned (.tuple #[.int .i64 0, .slice none 0 0, .bool false])) w) := by
        rw [hP, if_pos hz]; exact ⟨Below.refl _ _, rfl⟩
      have hzb : (((k[0]'hlt).toNat : Int) == 0) = true := by rw [beq_iff_eq]; exact hz
      generalize RetParse w (parseK k) = R at *
      clear hP
      go_enter Tryz.func37, Tryz.ntmps37
      go_wp2_with fail
      exact HE.out
    · have hzb : (((k[0]'hlt).toNat : Int) == 0) = false := by rw [beq_eq_false_iff_ne]; exact hz
      rw [if_neg hz] at hP
      have HC : Hid (Calls Tryz.prog 72 #[.string (k.extract 1 k.size)] w fun e w' => ∃ v b, e = .returned (.tuple #[v, .bool b]) ∧ (b = true → RetParse w (parseK k) (.returned (.tuple #[.int .i64 (wrap64 (k[0]'hlt).toNat), v, .bool true])) w') ∧ (b = false → RetParse w (parseK k) (.returned (.tuple #[.int .i64 0, .slice none 0 0, .bool false])) w')) := by
        have hw : wrap64 ((k[0]'hlt).toNat : Int) = ((k[0]'hlt).toNat : Int) := by
          have := UInt8.toNat_lt (k[0]'hlt)
          unfold wrap64; omega
        rw [hw]
        refine (nums_any (k.extract 1 k.size) (by rw [ByteArray.size_extract]; omega) w).mono fun e w' ⟨hb, hR⟩ => ?_
        rw [hP]
        cases hx : numsL (k.extract 1 k.size).data.toList with
        | none =>
          rw [hx] at hR
          have hR' : e = .returned (.tuple #[.slice none 0 0, .bool false]) := hR
          exact ⟨.slice none 0 0, false, hR', fun h => (by cases h), fun _ => ⟨hb, rfl⟩⟩
        | some ns =>
          rw [hx] at hR
          obtain ⟨v, he, ho, hg⟩ := hR
          exact ⟨v, true, he, fun _ => ⟨hb, v, rfl, ho, hg⟩, fun h => (by cases h)⟩
      generalize RetParse w (parseK k) = R at *
      clear hP hz h0 hk
      go_enter Tryz.func37, Tryz.ntmps37
      go_wp2_with fail
      refine Calls.mono HC.out ?_
      rintro e w' ⟨v, b, rfl, hT, hF⟩
      cases b with
      | true =>
        have HT := Lib.hid (hT rfl)
        clear hT hF HC
        go_wp2_with fail
        exact HT.out
      | false =>
        have HF := Lib.hid (hF rfl)
        clear hT hF HC
        go_wp2_with fail
        exact HF.out
set_option maxRecDepth 100000 in
set_option maxHeartbeats 2000000 in
theorem rparse_any (k : ByteArray) (hk : k.size < 1000000000000) (w : World) : Calls Tryz.prog 47 #[.string k] w (RetParse w (parseK k)) := by
  by_cases h0 : k.size = 0
  · have HE : Hid (RetParse w (parseK k) (.returned (.tuple #[.int .i64 0, .slice none 0 0, .bool false])) w) := by
      rw [parseK_zero k h0]; exact ⟨Below.refl _ _, rfl⟩
    obtain rfl : k = ⟨#[]⟩ := by
      obtain ⟨⟨l⟩⟩ := k
      cases l with
      | nil => rfl
      | cons x r => simp [ByteArray.size] at h0
    generalize RetParse w (parseK ⟨#[]⟩) = R at *
    clear h0 hk
    go_enter Tryz.func47, Tryz.ntmps47
    go_wp2_with fail
    exact HE.out
  · have hlt : 0 < k.size := by omega
    have he : ((k.size : Int) == 0) = false := by rw [beq_eq_false_iff_ne]; omega
    have hk0 : (0 : Int) < (k.size : Int) := by omega
    have hP := parseK_some k hlt
    by_cases hz : ((k[0]'hlt).toNat : Int) = 0
    · have HE : Hid (RetParse w (parseK k) (.returned (.tuple #[.int .i64 0, .slice none 0 0, .bool false])) w) := by
        rw [hP, if_pos hz]; exact ⟨Below.refl _ _, rfl⟩
      have hzb : (((k[0]'hlt).toNat : Int) == 0) = true := by rw [beq_iff_eq]; exact hz
      generalize RetParse w (parseK k) = R at *
      clear hP
      go_enter Tryz.func47, Tryz.ntmps47
      go_wp2_with fail
      exact HE.out
    · have hzb : (((k[0]'hlt).toNat : Int) == 0) = false := by rw [beq_eq_false_iff_ne]; exact hz
      rw [if_neg hz] at hP
      have HC : Hid (Calls Tryz.prog 80 #[.string (k.extract 1 k.size)] w fun e w' => ∃ v b, e = .returned (.tuple #[v, .bool b]) ∧ (b = true → RetParse w (parseK k) (.returned (.tuple #[.int .i64 (wrap64 (k[0]'hlt).toNat), v, .bool true])) w') ∧ (b = false → RetParse w (parseK k) (.returned (.tuple #[.int .i64 0, .slice none 0 0, .bool false])) w')) := by
        have hw : wrap64 ((k[0]'hlt).toNat : Int) = ((k[0]'hlt).toNat : Int) := by
          have := UInt8.toNat_lt (k[0]'hlt)
          unfold wrap64; omega
        rw [hw]
        refine (rnums_any (k.extract 1 k.size) (by rw [ByteArray.size_extract]; omega) w).mono fun e w' ⟨hb, hR⟩ => ?_
        rw [hP]
        cases hx : numsL (k.extract 1 k.size).data.toList with
        | none =>
          rw [hx] at hR
          have hR' : e = .returned (.tuple #[.slice none 0 0, .bool false]) := hR
          exact ⟨.slice none 0 0, false, hR', fun h => (by cases h), fun _ => ⟨hb, rfl⟩⟩
        | some ns =>
          rw [hx] at hR
          obtain ⟨v, he, ho, hg⟩ := hR
          exact ⟨v, true, he, fun _ => ⟨hb, v, rfl, ho, hg⟩, fun h => (by cases h)⟩
      generalize RetParse w (parseK k) = R at *
      clear hP hz h0 hk
      go_enter Tryz.func47, Tryz.ntmps47
      go_wp2_with fail
      refine Calls.mono HC.out ?_
      rintro e w' ⟨v, b, rfl, hT, hF⟩
      cases b with
      | true =>
        have HT := Lib.hid (hT rfl)
        clear hT hF HC
        go_wp2_with fail
        exact HT.out
      | false =>
        have HF := Lib.hid (hF rfl)
        clear hT hF HC
        go_wp2_with fail
        exact HF.out
end Go.Proofs.YtnblhjndngpbnaaGreat
