/- What is proved here: the walk of RosterRight. Its condition: the acts' accounts are ints of 64 bits. -/
import Derived.Test.YtbljaikifgpflaaRightQ
import Derived.Test.YtbljaikifgpflaaRActsW
namespace Go.Proofs.Ytbljaikifgpflaa
open Go.RowKit

theorem mem_take_succ (l : List Int) (j : Nat) (u y : Int) (h : l[j]? = some u) : decide (y ∈ l.take (j + 1)) = (decide (y ∈ l.take j) || (u == y)) := by
  rw [take_one_more l j u h, Bool.eq_iff_iff, decide_eq_true_eq, Bool.or_eq_true, decide_eq_true_eq, beq_iff_eq, List.mem_append, List.mem_singleton]
  exact ⟨fun h => h.imp id Eq.symm, fun h => h.imp id Eq.symm⟩

set_option maxRecDepth 100000 in
set_option maxHeartbeats 8000000 in
theorem right_walk (w : World) (a : Option Addr) (c : Nat) (l : List (Int × Int × Int)) (h : ActsIn w a l) : Calls Try.prog 3 #[.slice a l.length c] w fun e w' => e = .returned (.bool true) ∧ Below w.heap.size w w' := by
  have HL := Lib.hid (lives21 w)
  have HN := Lib.hid (new_any w)
  by_cases h100 : 100 < l.length
  · have hd : decide ((100 : Int) < (l.length : Int)) = true := decide_eq_true (by omega)
    clear h
    generalize l.length = n at *
    go_enter Try.func3, Try.ntmps3
    go_wp2_with (go_at_call 6; refine HL.out.mono ?_; rintro e w1 ⟨rfl, h1⟩)
    go_ret
    exact ⟨rfl, h1⟩
  · have hd : decide ((100 : Int) < (l.length : Int)) = false := decide_eq_false (by omega)
    have HC : Hid (∀ wr k x, Below w.heap.size w wr → l[k]? = some x → ∃ ad, a = some ad ∧ wr.cell? (ad.add (k * 3)) = some (.int .i64 x.1) ∧ wr.cell? ⟨(ad.add (k * 3)).block, (ad.add (k * 3)).off + 1, none⟩ = some (.int .i64 x.2.1) ∧ wr.cell? ⟨(ad.add (k * 3)).block, (ad.add (k * 3)).off + 2, none⟩ = some (.int .i64 x.2.2)) := fun wr k x hb hk => by
      obtain ⟨ad, e, h0, h1, h2⟩ := h.at0 k x hk
      refine ⟨ad, e, ?_, ?_, ?_⟩
      · rw [Addr.add_zero'] at h0
        rw [hb.cell (p := ad.add (k * 3)) (World.block_lt_of_cell? w _ h0)]; exact h0
      · rw [add_n' _ 1 (by decide)] at h1
        rw [hb.cell (p := ⟨(ad.add (k * 3)).block, (ad.add (k * 3)).off + 1, none⟩) (World.block_lt_of_cell? w _ h1)]; exact h1
      · rw [add_n' _ 2 (by decide)] at h2
        rw [hb.cell (p := ⟨(ad.add (k * 3)).block, (ad.add (k * 3)).off + 2, none⟩) (World.block_lt_of_cell? w _ h2)]; exact h2
    have HLT : Hid (∀ (k : Nat) (x : Int × Int × Int), l[k]? = some x → x.2.1 < 9223372036854775808 ∧ x.2.2 < 9223372036854775808) := fun k x hk => h.lt x (List.mem_of_getElem? hk)
    have HG : Hid (∀ k, k < l.length → ∃ x, l[k]? = some x) := fun k hk => ⟨_, List.getElem?_eq_getElem hk⟩
    have HB : Hid (∀ b m k wr, RightAt w b m k wr → Below w.heap.size w wr) := fun b m k wr ⟨_, _, _, _, h⟩ => h.1
    have HR : Hid (∀ b m k wr, RightAt w b m k wr → k < 1000 → ∀ x y z : Int, y < 9223372036854775808 → z < 9223372036854775808 → RightRound w b m k wr.heap.size x y z (wr.alloc (.cells #[.int .i64 x, .int .i64 y, .int .i64 z] 32))) := fun b m k wr h hk x y z hy hz => right_round h hk x y z hy hz
    have HLI : Hid (∀ w1, Calls Try.prog 6 #[] w1 fun e w' => e = .returned (.bool true) ∧ Below w1.heap.size w1 w') := lives21
    clear h
    generalize l.length = n at *
    go_enter Try.func3, Try.ntmps3
    go_wp2_with fail
    refine HN.out.mono ?_
    rintro e w1 ⟨b, L, rfl, h1, h2, h3⟩
    have H0 : Hid (RightAt w b w1.heap.size 0 (w1.alloc (.cells #[.slice none 0 0, .slice none 0 0] 30))) := ⟨emptySt, St.Fit.empty, KeysP.empty _, RInv.empty, (two_start h1 h2 h3).x⟩
    clear h1 h2 h3
    go_wp2_with fail
    generalize w1.heap.size = m at *
    go_loopw [24] (fun i wr => ∃ k : Nat, i = .int .i64 k ∧ k ≤ n ∧ RightAt w b m k wr) (fun i _ => n - (intOf i).toNat)
    case atStart => exact ⟨0, rfl, by omega, H0.out⟩
    case round =>
      obtain ⟨k, rfl, hk, hA⟩ := hrel
      have HA := Lib.hid hA
      clear hA H0
      by_cases hlt : k < n
      · obtain ⟨⟨x, y, z⟩, hx⟩ := HG.out k hlt
        obtain ⟨ad, rfl, q0, q1, q2⟩ := HC.out wr k _ (HB.out _ _ _ _ HA.out) hx
        obtain ⟨hy, hz⟩ := HLT.out k _ hx
        simp only at q0 q1 q2 hy hz
        have HRO := Lib.hid (HR.out b m k wr HA.out (by omega) x y z hy hz)
        clear hx hy hz HA
        unfold RightRound at HRO
        go_wp2_with fail
        refine Calls.mono HRO.out ?_
        rintro e w1' ⟨rfl, hC⟩
        have HC1 := Lib.hid hC
        clear hC HRO q0 q1 q2
        go_wp2_with fail
        refine Calls.mono HC1.out ?_
        rintro e w2 ⟨a1, q, c1, rfl, hq, hOp, hcb, hMe, hEnd⟩
        have HOP := Lib.hid hOp
        have HCB := Lib.hid hcb
        have HME := Lib.hid hMe
        have HEND := Lib.hid hEnd
        clear hOp hcb hMe hEnd HC1
        generalize wr.heap.size = bx at *
        go_wp2_with fail
        go_loopw [35] (fun iv wi => ∃ i : Nat, iv = .int .i64 i ∧ i ≤ q ∧ Below w2.heap.size w2 wi) (fun iv _ => q - (intOf iv).toNat)
        case atStart => exact ⟨0, rfl, by omega, Below.refl _ _⟩
        case round =>
          obtain ⟨i, rfl, hi, hbi⟩ := hrel
          by_cases hiq : i < q
          · obtain ⟨g, o, rfl, hcell, hcalls⟩ := HOP.out i hiq
            have hc1' := hcell _ hbi
            have HCA := Lib.hid (hcalls _ hbi)
            clear hcell hcalls hbi
            go_wp2_with fail
            refine Calls.mono HCA.out ?_
            rintro e w3 ⟨rfl, hb3, hC⟩
            have HC3 := Lib.hid hC
            clear hC HCA
            go_wp2_with fail
            refine Calls.mono HC3.out ?_
            rintro e w4 ⟨rfl, hb4, hC⟩
            have HC4 := Lib.hid hC
            clear hC HC3
            go_wp2_with fail
            refine Calls.mono HC4.out ?_
            rintro e w5 ⟨a5, n5, c5, rfl, hn5, hb5, hSt⟩
            have HST := Lib.hid hSt
            clear hSt HC4 hb3 hb4 hc1'
            go_wp2_with fail
            go_loopw [54] (fun jv wj => ∃ j : Nat, jv = .int .i64 j ∧ j ≤ n5 ∧ Below w5.heap.size w5 wj) (fun jv _ => n5 - (intOf jv).toNat)
            case atStart => exact ⟨0, rfl, by omega, Below.refl _ _⟩
            case round =>
              obtain ⟨j, rfl, hj, hbj⟩ := hrel
              by_cases hjn : j < n5
              · obtain ⟨g5, u, rfl, hcell5, hcall5⟩ := HST.out j hjn
                have hcu := hcell5 _ hbj
                have HCU := Lib.hid (hcall5 _ hbj)
                clear hcell5 hcall5 hbj
                go_wp2_with fail
                refine Calls.mono HCU.out ?_
                rintro e w6 ⟨rfl, hb6⟩
                go_wp2_with fail
                go_roundw
                case rel => exact ⟨j + 1, by go_num, by omega, hb6⟩
                case measure => simp [intOf]; omega
              · obtain rfl : j = n5 := by omega
                have hbt := hb5.trans (hbj.mono hb5.size)
                clear hbj hb5
                go_wp2_with fail
                go_roundw
                case rel => exact ⟨i + 1, by go_num, by omega, hbt⟩
                case measure => simp [intOf]; omega
          · obtain rfl : i = q := by omega
            have hcy := HCB.out _ hbi
            have HM := Lib.hid (HME.out _ hbi)
            clear hbi
            go_wp2_with fail
            refine Calls.mono HM.out ?_
            rintro e w7 ⟨o, rfl, hb7, hRest⟩
            by_cases ho : o = 0
            · subst ho
              have HE := HEND.out _ hb7
              clear hRest hb7 HM hcy
              go_wp2_with fail
              go_roundw
              case rel => exact ⟨k + 1, by go_num, by omega, HE⟩
              case measure => simp [intOf]; omega
            · have hob : (o != 0) = true := by simpa using ho
              have HRS := Lib.hid (hRest ho)
              clear hRest hb7 HM hcy ho
              go_wp2_with fail
              refine Calls.mono HRS.out ?_
              rintro e w8 ⟨l8, a8, c8, rfl, hl8, hmem, hb8, hlie, hIs⟩
              have HLIE := Lib.hid hlie
              have HIS := Lib.hid hIs
              clear hlie hIs HRS
              go_wp2_with fail
              go_loopw [12, 75] (fun fv jv wj => ∃ j : Nat, jv = .int .i64 j ∧ j ≤ l8.length ∧ fv = .bool (decide (y ∈ l8.take j)) ∧ Below w8.heap.size w8 wj) (fun _ jv _ => l8.length - (intOf jv).toNat)
              case atStart => exact ⟨0, rfl, by omega, by simp, Below.refl _ _⟩
              case round =>
                obtain ⟨j, rfl, hj, rfl, hbj⟩ := hrel
                by_cases hjn : j < l8.length
                · obtain ⟨u, hu⟩ : ∃ u, l8[j]? = some u := ⟨_, List.getElem?_eq_getElem hjn⟩
                  obtain ⟨hl9, hcy⟩ := HLIE.out _ hbj
                  obtain ⟨g8, rfl, hcu⟩ := hl9.at0 j u hu
                  have hstep := mem_take_succ l8 j u y hu
                  have HSTEP := Lib.hid hstep
                  have HBJ := Lib.hid hbj
                  clear hl9 hstep hbj hu
                  cases hd1 : decide (y ∈ l8.take j) with
                  | true =>
                    rw [hd1] at HSTEP
                    go_wp2_with fail
                    go_roundw
                    case rel => exact ⟨j + 1, by go_num, by omega, by rw [HSTEP.out]; rfl, HBJ.out⟩
                    case measure => simp [intOf]; omega
                  | false =>
                    rw [hd1] at HSTEP
                    go_wp2_with fail
                    go_roundw
                    case rel => exact ⟨j + 1, by go_num, by omega, by rw [HSTEP.out]; simp, HBJ.out⟩
                    case measure => simp [intOf]; omega
                · obtain rfl : j = l8.length := by omega
                  have hd1 : decide (y ∈ l8.take l8.length) = true := by rw [List.take_length]; simpa using hmem
                  have HI9 := Lib.hid (HIS.out _ hbj)
                  rw [hd1]
                  clear hbj hd1
                  go_wp2_with fail
                  refine Calls.mono HI9.out ?_
                  rintro e w9 ⟨rfl, hb9⟩
                  have HE := HEND.out _ hb9
                  clear hb9
                  go_wp2_with fail
                  go_roundw
                  case rel => exact ⟨k + 1, by go_num, by omega, HE⟩
                  case measure => simp [intOf]; omega
      · obtain rfl : k = n := by omega
        have HLL := Lib.hid (HLI.out wr)
        have hb0 := HB.out _ _ _ _ HA.out
        go_wp2_with (go_at_call 6; refine HLL.out.mono ?_; rintro e w5 ⟨rfl, hb5⟩)
        go_ret
        exact ⟨rfl, hb0.trans (hb5.mono hb0.size)⟩
end Go.Proofs.Ytbljaikifgpflaa
