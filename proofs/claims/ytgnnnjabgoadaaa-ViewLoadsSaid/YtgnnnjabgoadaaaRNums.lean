/- What is proved here: the reference's Nums at any text. -/
import Derived.Test.YtgnnnjabgoadaaaNumsG
namespace Go.Proofs.Ytgnnnjabgoadaaa
open Go.RowKit

set_option maxRecDepth 100000 in
set_option maxHeartbeats 2000000 in
theorem rnums_any (s : ByteArray) (hs : s.size < 1000000000000) (w : World) : Calls Try.prog 95 #[.string s] w (RetNumsG w (numsL s.data.toList)) := by
  have h0 : NumsAt w s.data.toList (numsL s.data.toList) 0 (.slice none 0 0) w := ⟨[], NumsTo.start _, Own.nil _ _ _, fun g hg => by simp [Value.ownBlock] at hg, Below.refl _ _⟩
  have hl : s.data.toList.length = s.size := rfl
  have hm := numsL_mod s.data.toList
  by_cases hmod : s.size % 8 = 0
  · have HL := Lib.hid hl
    clear hl
    have HE : Hid (∀ e w', RetNumsG w (numsL s.data.toList) e w' → RetNumsG w (numsL s.data.toList) e w') := fun _ _ h => h
    generalize numsL s.data.toList = R at *
    have H0 := Lib.hid h0
    clear h0 HE
    have hmd : (((s.size : Int) % 8) != 0) = false := by rw [bne_eq_false_iff_eq]; omega
    go_enter Try.func95, Try.ntmps95
    go_wp2_with fail
    go_loopw [4, 5] (fun v a wr => ∃ k : Nat, a = .int .i64 (8 * (k : Int)) ∧ 8 * k ≤ s.size ∧ NumsAt w s.data.toList R k v wr) (fun _ a _ => s.size - (intOf a).toNat)
    case atStart => exact ⟨0, rfl, by omega, H0.out⟩
    case round =>
      obtain ⟨k, rfl, hk, hN⟩ := hrel
      have HN := Lib.hid hN
      clear hN H0
      by_cases hlt : 8 * k < s.size
      · have hk8 : 8 * k + 8 ≤ s.size := by omega
        have hdk : decide (8 * (k : Int) < (s.size : Int)) = true := by simp; omega
        go_wp2_with fail
        go_loop [6, 7] (fun x c => ∃ i : Nat, i ≤ 8 ∧ c = .int .i64 i ∧ x = .int .u64 (be ((s.data.toList.drop (8 * k)).take i) : Nat)) (fun _ c => 8 - (intOf c).toNat)
        case atStart => exact ⟨0, by omega, rfl, rfl⟩
        case round =>
          obtain ⟨i, hi, rfl, rfl⟩ := hrel
          by_cases hi8 : i < 8
          · have HS := Lib.hid (be_step s.data.toList k i (by rw [HL.out]; omega))
            have hsm := be_small (s.data.toList.drop (8 * k)) i hi8
            generalize be ((s.data.toList.drop (8 * k)).take i) = x at *
            have hlti : 8 * k + i < s.size := by omega
            go_wp2
            go_round
            case rel => exact ⟨i + 1, by omega, by go_num, by rw [or_step x _ hsm (UInt8.toNat_lt _), HS.out]; rfl⟩
            case measure => simp [intOf]; omega
          · obtain rfl : i = 8 := by omega
            have hx64 := be_small8 (s.data.toList.drop (8 * k))
            obtain ⟨xs, ho, hstep⟩ := HN.out.own
            have hno := HN.out.no (by rw [HL.out]; omega)
            have hl8 : 8 * k + 8 ≤ s.data.toList.length := by rw [HL.out]; omega
            generalize be ((s.data.toList.drop (8 * k)).take 8) = x at *
            have HO := Lib.hid ho
            have HST := Lib.hid hstep
            have HNO := Lib.hid hno
            have HL8 := Lib.hid hl8
            clear ho hstep hno hl8
            have hone : ∀ u ∈ [Value.int .i64 (x : Int)], u.oneCell' = true := by intro u hu; rw [List.mem_singleton.1 hu]; rfl
            have hks : k < 1000000000000 := by omega
            have hmx : k + 1 ≤ maxLen := by unfold maxLen; omega
            by_cases hx : x < 9223372036854775808
            · have hsh : decide ((9223372036854775807 : Int) < (x : Int)) = false := by simp; omega
              go_wp2_with (at_builtin; refine wpList_append_Own rfl _ _ 55 55 rfl intT intT _ k xs rfl HO.out _ 1 _ [.int .i64 x] rfl rfl ?hnews hone hmx (by omega) ?_)
              intro v' w' hA
              have HR := Lib.hid (HST.out v' w' hx HL8.out hA)
              clear hA
              go_wp2
              go_roundw
              case rel => exact ⟨k + 1, by go_num, by omega, HR.out⟩
              case measure => simp [intOf]; omega
            · have hsh : decide ((9223372036854775807 : Int) < (x : Int)) = true := by simp; omega
              have hR := HNO.out hx
              have HR := Lib.hid hR
              clear hR
              go_wp2
              go_ret2
              exact HR.out
      · have hdk : decide (8 * (k : Int) < (s.size : Int)) = false := by simp; omega
        have HR := Lib.hid (HN.out.yes (by rw [HL.out]; omega))
        go_wp2
        go_ret2
        exact HR.out
  · have HR := Lib.hid (RetNumsG.no (hm (by rw [hl]; exact hmod)) (Below.refl w.heap.size w))
    have hmd : (((s.size : Int) % 8) != 0) = true := by rw [bne_iff_ne]; omega
    generalize numsL s.data.toList = R at *
    clear hm h0 hl
    go_enter Try.func95, Try.ntmps95
    go_wp2
    go_ret2
    exact HR.out
end Go.Proofs.Ytgnnnjabgoadaaa
