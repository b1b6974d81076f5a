/- What is proved here: the walk of ViewBack. Its condition: pairs of 2^20 bytes at most. -/
import Derived.Test.YtgnnnjabgoadaaaBack
namespace Go.Proofs.Ytgnnnjabgoadaaa
open Go.RowKit

theorem totE_append (l r : List Ent) : totE (l ++ r) = totE l + totE r := by
  induction l with
  | nil => simp [totE]
  | cons x l ih => simp only [List.cons_append, totE, ih]; omega

theorem totE_step {l : List Ent} {i : Nat} {x : Ent} (h : l[i]? = some x) : totE (l.take (i + 1)) = totE (l.take i) + (x.1.size + x.2.size) := by
  have e : l.take (i + 1) = l.take i ++ [x] := by rw [List.take_add_one, h]; rfl
  rw [e, totE_append]
  simp [totE]

theorem totE_take (l : List Ent) (i : Nat) : totE (l.take i) ≤ totE l := by
  have : totE l = totE (l.take i) + totE (l.drop i) := by rw [← totE_append, List.take_append_drop]
  omega

theorem add_one' (a : Addr) : a.add 1 = ⟨a.block, a.off + 1, none⟩ := by simp [Addr.add]

/-- Where ViewBack's loop stands. -/
def BackAt (w : World) (b1 b2 : Nat) (l : List Ent) (i : Nat) (wr : World) : Prop := ∃ s t, VB w b1 b2 s t wr ∧ s.Lit (totE (l.take i)) i ∧ t.Lit (totE (l.take i)) i

theorem BackAt.swap {w wr : World} {b1 b2 : Nat} {l : List Ent} {i : Nat} (h : BackAt w b1 b2 l i wr) : BackAt w b2 b1 l i wr := by
  obtain ⟨s, t, hV, hs, ht⟩ := h
  exact ⟨t, s, hV.swap, ht, hs⟩

theorem BackAt.round {w wr : World} {b1 b2 : Nat} {l : List Ent} {i : Nat} (h : BackAt w b1 b2 l i wr) (x : Ent) (hx : l[i]? = some x) (hz : totE l ≤ 1048576) (hi : i ≤ 120) :
    Calls Try.prog 15 #[.pointer (some ⟨b1, 0, none⟩), .string x.1, .string x.2] (wr.alloc (.cells #[.string x.1, .string x.2] 39)) fun e w' => (∃ v : Int, e = .returned (.int .i64 v)) ∧ BackAt w b1 b2 l (i + 1) w' ∧ w'.cell? ⟨wr.heap.size, 0, none⟩ = some (.string x.1) ∧ w'.cell? ⟨wr.heap.size, 1, none⟩ = some (.string x.2) := by
  obtain ⟨s, t, hV, hs, ht⟩ := h
  have ht1 := totE_step hx
  have hb := hs.bytes (by have := totE_take l i; omega) (by omega)
  refine (hV.setq ((Below.refl _ wr).alloc (Nat.le_refl _) (.cells #[.string x.1, .string x.2] 39)) x.1 x.2 hb.2).mono fun e w' ⟨he, hV2, hq⟩ => ⟨he, ⟨_, t, hV2, (hs.setA x.1 x.2).mono (by omega) (Nat.le_refl _), ht.mono (by omega) (by omega)⟩, ?_⟩
  have hh : w'.heap[wr.heap.size]? = _ := (hq _ (Nat.le_refl _) (by simp)).trans (heap_alloc_new wr _)
  exact ⟨by rw [cell_of_row _ _ _ _ _ _ hh]; rfl, by rw [cell_of_row _ _ _ _ _ _ hh]; rfl⟩

set_option maxRecDepth 100000 in
set_option maxHeartbeats 20000000 in
theorem back_walk (w : World) (a1 : Option Addr) (c1 : Nat) (l1 : List Ent) (a2 : Option Addr) (c2 : Nat) (l2 : List Ent) (a3 : Option Addr) (c3 : Nat) (l3 : List UInt8) (h1 : PairsB w a1 l1) (h2 : PairsB w a2 l2) (h3 : Src w 1 (.slice a3 l3.length c3) l3.length (bytesV l3)) (hz : totE l1 + totE l2 ≤ 1048576)
    (g1 : l1.length ≤ 60) (g2 : l2.length ≤ 60) (g3 : l3.length ≤ 5000) :
    Calls Try.prog 4 #[.slice a1 l1.length c1, .slice a2 l2.length c2, .slice a3 l3.length c3] w fun e w' => e = .returned (.bool true) ∧ Below w.heap.size w w' := by
  have HN : Hid (Calls Try.prog 14 #[] w fun e w1 => ∃ b1, e = .returned (.pointer (some ⟨b1, 0, none⟩)) ∧ Calls Try.prog 14 #[] w1 fun e w2 => ∃ b2, e = .returned (.pointer (some ⟨b2, 0, none⟩)) ∧ BackAt w b1 b2 (l1 ++ l2) 0 w2) :=
    (new_any w).mono fun e w1 ⟨b1, L1, he, hS, hF, hL⟩ => ⟨b1, he, (new_any w1).mono fun e w2 ⟨b2, L2, he2, hS2, hF2, hL2⟩ => ⟨b2, he2, emptySt, emptySt, VB.start hS hF hL hS2 hF2 hL2, by simpa [totE] using St.Lit.empty, by simpa [totE] using St.Lit.empty⟩⟩
  have hd1 : decide ((60 : Int) < (l1.length : Int)) = false := decide_eq_false (by omega)
  have hd2 : decide ((60 : Int) < (l2.length : Int)) = false := decide_eq_false (by omega)
  have hd3 : decide ((5000 : Int) < (l3.length : Int)) = false := decide_eq_false (by omega)
  have HM : Hid (∀ b1 b2 i wr, i ≤ 120 → BackAt w b1 b2 (l1 ++ l2) i wr → BackMid w b1 b2 a3 c3 l3 wr) := fun b1 b2 i wr hi ⟨s, t, hV, hs, ht⟩ => hV.mid hs ht (by have := totE_take (l1 ++ l2) i; rw [totE_append] at this; omega) (by omega) h3 (by omega)
  have HL : Hid (∀ b1 b2 i wr, BackAt w b1 b2 (l1 ++ l2) i wr → Calls Try.prog 13 #[] wr fun e w' => e = .returned (.bool true) ∧ Below w.heap.size w w') := fun b1 b2 i wr ⟨s, t, hV, _⟩ => (lives37 wr).mono fun e w' ⟨he, hb⟩ => ⟨he, below_then hV.bl hb⟩
  go_enter Try.func4, Try.ntmps4
  go_wp2_with fail
  refine Calls.mono HN.out ?_
  rintro e w1 ⟨b1, rfl, hC⟩
  have HC := Lib.hid hC
  clear hC HN
  go_wp2_with fail
  refine Calls.mono HC.out ?_
  rintro e w2 ⟨b2, rfl, hC⟩
  have H0 := Lib.hid hC
  clear hC HC
  go_wp2_with fail
  go_loopw [9, 10] (fun nv iv wr => ∃ i : Nat, iv = .int .i64 i ∧ nv = .int .i64 (totE ((l1 ++ l2).take i) : Nat) ∧ i ≤ l1.length + l2.length ∧ BackAt w b1 b2 (l1 ++ l2) i wr) (fun _ iv _ => l1.length + l2.length - (intOf iv).toNat)
  case atStart => exact ⟨0, rfl, by simp [totE], by omega, H0.out⟩
  case round =>
    obtain ⟨i, rfl, rfl, hi, hB⟩ := hrel
    have HB := Lib.hid hB
    clear hB H0
    by_cases hlt : i < l1.length + l2.length
    · have hk0 : (0 : Int) ≤ (i : Int) := Int.natCast_nonneg _
      by_cases hlt1 : i < l1.length
      · obtain ⟨x, hx⟩ : ∃ x, l1[i]? = some x := ⟨_, List.getElem?_eq_getElem hlt1⟩
        obtain ⟨ad, rfl, hc1, hc2⟩ := h1.at0 i x hx
        have hxl : (l1 ++ l2)[i]? = some x := by rw [List.getElem?_append_left hlt1]; exact hx
        obtain ⟨s, t, hV, hLs, hLt⟩ := HB.out
        have hq : ∀ (a : Addr) (u : Value), w.cell? a = some u → (wr.alloc (.cells #[.string ⟨#[]⟩, .string ⟨#[]⟩] 39)).cell? a = some u := fun a u ha => by
          have hb := below_then hV.bl ((Below.refl _ wr).alloc (Nat.le_refl _) (.cells #[.string ⟨#[]⟩, .string ⟨#[]⟩] 39))
          rw [hb.cell (World.block_lt_of_cell? w _ ha)]; exact ha
        have hc1' := hq _ _ hc1
        have hc2' := hq _ _ hc2
        have hc0' := hc1'
        rw [Addr.add_zero'] at hc0'
        rw [add_one'] at hc2'
        clear hc1'
        have hk1 : (i : Int) < (l1.length : Int) := by omega
        have hd : decide ((i : Int) < (l1.length : Int) + (l2.length : Int)) = true := decide_eq_true (by omega)
        clear hq hc1 hc2
        have HRO := Lib.hid (HB.out.round x hxl (by rw [totE_append]; exact hz) (by omega))
        go_wp2_with fail
        refine Calls.mono HRO.out ?_
        rintro e w3 ⟨⟨v, rfl⟩, hB3, hd4, hd5⟩
        have HB3 := Lib.hid hB3
        clear hB3 HRO
        have hst := totE_step hxl
        have HST := Lib.hid hst
        have hle := totE_take (l1 ++ l2) (i + 1)
        rw [totE_append] at hle
        have hle2 : totE ((l1 ++ l2).take i) + (x.1.size + x.2.size) ≤ 1048576 := by omega
        clear hst hle
        by_cases hbig : 5000 < totE ((l1 ++ l2).take (i + 1))
        · have HLV := Lib.hid (HL.out _ _ _ _ HB3.out)
          rw [HST.out] at hbig
          generalize totE ((l1 ++ l2).take i) = n at *
          have hdb : decide ((5000 : Int) < (n : Int) + ((x.1.size : Int) + (x.2.size : Int))) = true := decide_eq_true (by omega)
          go_wp2_with (go_at_call 13; refine Calls.mono HLV.out ?_; rintro e w4 ⟨rfl, hb4⟩)
          go_ret
          exact ⟨rfl, hb4⟩
        · rw [HST.out] at hbig
          generalize totE ((l1 ++ l2).take i) = n at *
          have hdb : decide ((5000 : Int) < (n : Int) + ((x.1.size : Int) + (x.2.size : Int))) = false := decide_eq_false (by omega)
          go_wp2_with fail
          go_roundw
          case rel => exact ⟨i + 1, by go_num, by rw [HST.out]; go_num, by omega, HB3.out⟩
          case measure => simp [intOf]; omega
      · obtain ⟨j, rfl⟩ : ∃ j, i = l1.length + j := ⟨i - l1.length, by omega⟩
        obtain ⟨x, hx⟩ : ∃ x, l2[j]? = some x := ⟨_, List.getElem?_eq_getElem (by omega)⟩
        obtain ⟨ad, rfl, hc1, hc2⟩ := h2.at0 j x hx
        have hxl : (l1 ++ l2)[l1.length + j]? = some x := by rw [List.getElem?_append_right (by omega), Nat.add_sub_cancel_left]; exact hx
        obtain ⟨s, t, hV, hLs, hLt⟩ := HB.out
        have hq : ∀ (a : Addr) (u : Value), w.cell? a = some u → (wr.alloc (.cells #[.string ⟨#[]⟩, .string ⟨#[]⟩] 39)).cell? a = some u := fun a u ha => by
          have hb := below_then hV.bl ((Below.refl _ wr).alloc (Nat.le_refl _) (.cells #[.string ⟨#[]⟩, .string ⟨#[]⟩] 39))
          rw [hb.cell (World.block_lt_of_cell? w _ ha)]; exact ha
        have hc1' := hq _ _ hc1
        have hc2' := hq _ _ hc2
        have hc0' := hc1'
        rw [Addr.add_zero'] at hc0'
        rw [add_one'] at hc2'
        clear hc1'
        have hj0 : (0 : Int) ≤ (j : Int) := Int.natCast_nonneg _
        have hk1 : (j : Int) < (l2.length : Int) := by omega
        have hjm : ((l1.length : Int) + (j : Int)) - (l1.length : Int) = (j : Int) := by omega
        have hn1 : decide ((l1.length : Int) + (j : Int) < (l1.length : Int)) = false := decide_eq_false (by omega)
        have hd : decide ((l1.length : Int) + (j : Int) < (l1.length : Int) + (l2.length : Int)) = true := decide_eq_true (by omega)
        clear hq hc1 hc2
        have HRO := Lib.hid (HB.out.swap.round x hxl (by rw [totE_append]; exact hz) (by omega))
        go_wp2_with fail
        refine Calls.mono HRO.out ?_
        rintro e w3 ⟨⟨v, rfl⟩, hB3, hd4, hd5⟩
        have HB3 := Lib.hid hB3.swap
        clear hB3 HRO
        have hst := totE_step hxl
        have HST := Lib.hid hst
        have hle := totE_take (l1 ++ l2) (l1.length + j + 1)
        rw [totE_append] at hle
        have hle2 : totE ((l1 ++ l2).take (l1.length + j)) + (x.1.size + x.2.size) ≤ 1048576 := by omega
        clear hst hle
        by_cases hbig : 5000 < totE ((l1 ++ l2).take (l1.length + j + 1))
        · have HLV := Lib.hid (HL.out _ _ _ _ HB3.out)
          rw [HST.out] at hbig
          generalize totE ((l1 ++ l2).take (l1.length + j)) = n at *
          have hdb : decide ((5000 : Int) < (n : Int) + ((x.1.size : Int) + (x.2.size : Int))) = true := decide_eq_true (by omega)
          go_wp2_with (go_at_call 13; refine Calls.mono HLV.out ?_; rintro e w4 ⟨rfl, hb4⟩)
          go_ret
          exact ⟨rfl, hb4⟩
        · rw [HST.out] at hbig
          generalize totE ((l1 ++ l2).take (l1.length + j)) = n at *
          have hdb : decide ((5000 : Int) < (n : Int) + ((x.1.size : Int) + (x.2.size : Int))) = false := decide_eq_false (by omega)
          go_wp2_with fail
          go_roundw
          case rel => exact ⟨l1.length + j + 1, by go_num, by rw [HST.out]; go_num, by omega, HB3.out⟩
          case measure => simp [intOf]; omega
    · obtain rfl : i = l1.length + l2.length := by omega
      have hMid := HM.out b1 b2 _ wr (by omega) HB.out
      have HMID : Hid (BackMid w b1 b2 a3 c3 l3 wr) := hMid
      clear hMid
      generalize totE ((l1 ++ l2).take (l1.length + l2.length)) = n at *
      unfold BackMid at HMID
      go_wp2_with fail
      refine Calls.mono HMID.out ?_
      rintro e w3 ⟨a4, n4, c4, rfl, hC⟩
      have HC3 := Lib.hid hC
      clear hC HMID
      go_wp2_with fail
      refine Calls.mono HC3.out ?_
      rintro e w4 ⟨u, rfl, hC⟩
      have HC4 := Lib.hid hC
      clear hC HC3
      go_wp2_with fail
      refine Calls.mono HC4.out ?_
      rintro e w5 ⟨a5, n5, c5, rfl, hC⟩
      have HC5 := Lib.hid hC
      clear hC HC4
      go_wp2_with fail
      refine Calls.mono HC5.out ?_
      rintro e w6 ⟨a6, n6, c6, rfl, hC⟩
      have HC6 := Lib.hid hC
      clear hC HC5
      go_wp2_with fail
      refine Calls.mono HC6.out ?_
      rintro e w7 ⟨rfl, hC⟩
      have HC7 : Hid (BackAsk w b1 b2 a3 c3 l3 w7) := hC
      clear hC HC6
      unfold BackAsk at HC7
      go_wp2_with fail
      refine Calls.mono HC7.out ?_
      rintro e w8 hE
      clear HC7 HM HL HB h1 h2 h3
      obtain ⟨v8, x, hev, hN⟩ : ∃ v8 x, e = .returned (.tuple #[v8, .int .i64 x]) ∧ ((x ≠ 0 ∧ BackEnd w b1 b2 w8.drew.drew) ∨
          (∃ v, v8 = .pointer (some ⟨v, 0, none⟩) ∧ x = 0 ∧ (convert 36 9 (.slice a3 l3.length c3)).run Try.prog w8.drew = .ok (.string ⟨l3.toArray⟩) w8.drew ∧
            Calls Try.prog 17 #[.pointer (some ⟨v, 0, none⟩)] w8.drew fun e w7 => ∃ a7 n7 c7, e = .returned (.slice a7 n7 c7) ∧ (convert 36 9 (.slice a7 n7 c7)).run Try.prog w7 = .ok (.string ⟨l3.toArray⟩) w7 ∧
              (convert 36 9 (.slice a3 l3.length c3)).run Try.prog w7 = .ok (.string ⟨l3.toArray⟩) w7 ∧ BackEnd w b1 b2 w7.drew)) := by
        rcases hE with ⟨x, hx, rfl, hE⟩ | ⟨v, rfl, hcv, hB⟩
        · exact ⟨_, _, rfl, .inl ⟨hx, hE⟩⟩
        · exact ⟨_, _, rfl, .inr ⟨v, rfl, rfl, hcv, hB⟩⟩
      clear hE
      subst hev
      have HE := Lib.hid hN
      clear hN
      go_upto_region 21 with fail
      go_cut [111] from 9 (fun s wc => s = .bool false ∧ BackEnd w b1 b2 wc.drew)
      case rest =>
        obtain ⟨rfl, hE⟩ := hcut
        have HB := Lib.hid hE
        clear hE HE
        unfold BackEnd at HB
        go_wp2_with fail
        clear hz g1 g2 g3 hd1 hd2 hd3 hi hlt
        go_region_law (first
          | (go_simp; go_at_call 17; with_reducible refine Calls.mono HB.out ?_; rintro e w9 ⟨a9, n9, c9, s9, rfl, hcv9, hE9⟩; have hcv9a := hcv9 _ (Below.refl _ _))
          | (go_simp; go_at_call 17; with_reducible refine Calls.mono hE9 ?_; rintro e w10 ⟨hb10, a10, n10, c10, s10, rfl, hcv10, hE10⟩; have hcv9b := hcv9 _ hb10; have hcv10a := hcv10 _ (Below.refl _ _))
          | (go_simp; go_at_call 19; with_reducible refine Calls.mono hE10 ?_; rintro e w11 ⟨hb11, a11, n11, c11, rfl, hE11⟩; have hcv10b := hcv10 _ hb11; have hcv9c := hcv9 _ (below_then hb10 hb11))
          | (go_simp; go_at_call 19; with_reducible refine Calls.mono hE11 ?_; rintro e w12 ⟨hb12, a12, n12, c12, rfl, hE12⟩; have hcv10d := hcv10 _ (below_then hb11 hb12); have hcv9d := hcv9 _ (below_then (below_then hb10 hb11) hb12))
          | (go_simp; go_at_call 18; with_reducible refine Calls.mono hE12 ?_; rintro e w13 ⟨rfl, hb13, hE13⟩; have hcv10e := hcv10 _ (below_then (below_then hb11 hb12) hb13); have hcv9e := hcv9 _ (below_then (below_then (below_then hb10 hb11) hb12) hb13))
          | (go_simp; go_at_call 13; with_reducible refine Calls.mono hE13 ?_; rintro e w14 ⟨rfl, hb14, hB14⟩))
        all_goals
          go_wp2_with fail
          go_ret
          exact ⟨rfl, hB14⟩
      case first =>
        rcases HE.out with ⟨hx, hB⟩ | ⟨v, rfl, rfl, hcv, hB⟩
        · have hxb : (x == 0) = false := by simpa using hx
          clear HE hx
          go_region
          all_goals
            go_wp2_with fail
            go_meet
            case rel => exact ⟨by go_num, hB⟩
        · clear HE
          go_region_law (first
          | (go_simp; go_at_call 17; with_reducible refine Calls.mono hB ?_; rintro e w9 ⟨a9, n9, c9, rfl, hcv9, hcva9, hE9⟩))
          all_goals
            go_wp2_with fail
            go_meet
            case rel => exact ⟨by go_num, hE9⟩
end Go.Proofs.Ytgnnnjabgoadaaa
