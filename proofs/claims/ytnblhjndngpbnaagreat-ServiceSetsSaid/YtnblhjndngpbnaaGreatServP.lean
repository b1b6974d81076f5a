/- What is proved here: service.Strategies: a set's strategies, that rise, in a slice of its own. Its conditions: numbers below 2^63, sizes; no entry lies at the empty key. -/
import Derived.Test.YtnblhjndngpbnaaGreatIter
namespace Go.Proofs.YtnblhjndngpbnaaGreat
open Go.RowKit Go.Maps

theorem gb_below {w w' : World} (h : Below w.heap.size w w') (row : Option Nat) : w.grownBy w' row := ⟨h.os, h.tape, h.output, h.size, fun k hk _ => h.block k hk⟩
theorem gb_then {w w1 w2 : World} {row : Option Nat} (h : w.grownBy w1 row) (h2 : w1.grownBy w2 row) : w.grownBy w2 row :=
  ⟨h2.os.trans h.os, h2.tape.trans h.tape, h2.output.trans h.output, Nat.le_trans h.size h2.size, fun k hk hne => (h2.block k (Nat.lt_of_lt_of_le hk h.size) hne).trans (h.block k hk hne)⟩

/-- A map's block is no row. -/
theorem map_ne {H : Type} {w : World} {P : Program} {t : TypeId} {R : Value → Option (DataW H × List MemPlace)} {b n : Nat} {D : DataW H} (h : w.ownsMap P t R b n D) {g i : Nat} {v : Value} (hc : w.cell? ⟨g, i, none⟩ = some v) : g ≠ b := fun e => by
  subst e
  obtain ⟨es, clock, hb, _⟩ := h
  unfold World.cell? at hc
  simp [hb] at hc

/-- Behind k rounds. -/
def StrTo (w2 : World) (mb : Nat) (us : List Ent) (k : Nat) (wr : World) : Prop := wr.ownsMap Tryz.prog 3 (plainElem Tryz.prog 4) mb k (setZ ((us.take k).filterMap thirdOf)) ∧ w2.grownBy wr (some mb)

theorem StrTo.stay {w2 : World} {mb : Nat} {us : List Ent} {k : Nat} {wr w' : World} (h : StrTo w2 mb us k wr) (hb : Below wr.heap.size wr w') : StrTo w2 mb us k w' :=
  ⟨h.1.kept (gb_below hb none) (by simp), gb_then h.2 (gb_below hb _)⟩

set_option maxRecDepth 100000 in
set_option maxHeartbeats 4000000 in
theorem sstrs_any (w : World) (b : Nat) (s : St) (L : List Nat) (f : Nat) (a n : Int) (ha : a < 9223372036854775808) (hnn : n < 9223372036854775808) (h : SRep w b s L) (hf : s.Fit f) (hm : f < 10000000000) (hkey : ∀ x ∈ s.ents, x.1.size < 1000000000000) (hE : NoE s) :
    Calls Tryz.prog 9 #[.pointer (some ⟨b, 0, none⟩), .int .i64 a, .int .i64 n] w fun e W' => ∃ v, e = .returned v ∧ W'.ownsRow w.heap.size 3 1 v (strL s a n).length ((strL s a n).map fun x => Value.int .i64 x) ∧ Below w.heap.size w W' := by
  have hmm := @run_makeMap Tryz.prog
  have hlen : s.ents.length < 1000000000000 := by have := hf.size; unfold St.size at this; omega
  have hz : s.size < 1000000000000 := Nat.lt_of_le_of_lt hf.size (by omega)
  have HT := Lib.hid (sthere_any w b s L f a n ha h hf (by omega))
  have HML : Hid (strL s a n = if sThere s a n then strU s a n else []) := rfl
  have HUD : Hid (strU s a n = (underE (keyL 23 [a, n]) s.ents).filterMap thirdOf) := rfl
  have HRI : Hid (sThere s a n = true → (strU s a n).Pairwise (· < ·) ∧ ∀ z ∈ strU s a n, 0 ≤ z ∧ z < 9223372036854775808) := fun ht => by
    obtain ⟨h0, h1⟩ := there_of hE ht
    exact ⟨strU_rise hf.srt h0 ha h1 hnn, fun z hz => ⟨strU_mem hz, strU_lt h0 ha h1 hnn hz⟩⟩
  generalize strL s a n = ml at *
  generalize sThere s a n = there at *
  cases there with
  | false =>
    have hml : ml = [] := HML.out
    subst hml
    clear h hf hkey HUD HRI
    go_enter Tryz.func9, Tryz.ntmps9
    go_wp2_with fail
    refine HT.out.mono ?_
    rintro e w1 ⟨rfl, hb1⟩
    go_wp2_with fail
    go_ret
    exact ⟨_, rfl, World.ownsRow_nil _ _ _ _, hb1⟩
  | true =>
  have HR := Lib.hid (HRI.out rfl)
  rw [HUD.out] at HR
  have hml : ml = (underE (keyL 23 [a, n]) s.ents).filterMap thirdOf := by rw [HML.out, if_pos rfl, HUD.out]
  subst hml
  clear HML HUD HRI
  have HK : Hid (∀ w1, Below w.heap.size w w1 → Calls Tryz.prog 36 #[.int .i64 23, .slice (some ⟨w1.heap.size, 0, none⟩) 2 2] (w1.alloc (.cells #[.int .i64 a, .int .i64 n] 3)) fun e w2 => e = .returned (.string (keyL 23 [a, n])) ∧ Below w1.heap.size w1 w2) := fun w1 h1 =>
    (key_any 23 (by decide) (by decide) _ [a, n] (w1.alloc (.cells #[.int .i64 a, .int .i64 n] 3)) (two_ints w1 a n) (by simp) (fun m hm => by
      simp only [List.mem_cons, List.not_mem_nil, or_false] at hm
      rcases hm with rfl | rfl <;> assumption)).mono fun e w2 ⟨he, hb⟩ => ⟨he, bl_then (bl_alloc (Below.refl _ w1) _) hb⟩
  have HU : Hid (∀ w1, Below w.heap.size w w1 → Calls Tryz.prog 35 #[.pointer (some ⟨b, 0, none⟩), .string (keyL 23 [a, n])] w1 fun e w2 => ∃ ad c, e = .returned (.slice ad (underE (keyL 23 [a, n]) s.ents).length c) ∧ PairsAt w2 ad (underE (keyL 23 [a, n]) s.ents) ∧ Below w1.heap.size w1 w2) := fun w1 h1 =>
    (under_any w1 b s L (keyL 23 [a, n]) (h.below h1) hz).mono fun e w2 ⟨v, he, hO⟩ => by
      obtain ⟨ad, c, rfl, hp⟩ := hO.1.pairs
      exact ⟨ad, c, he, hp, hO.2.2⟩
  have HL : Hid ((underE (keyL 23 [a, n]) s.ents).length < 1000000000000) := Nat.lt_of_le_of_lt (underE_len _ _) hlen
  have HKS : Hid (∀ (i : Nat) (x : Ent), (underE (keyL 23 [a, n]) s.ents)[i]? = some x → x.1.size < 1000000000000) := fun i x hx => hkey x (by have h := List.mem_of_getElem? hx; unfold underE at h; exact (List.mem_filter.1 h).1)
  generalize underE (keyL 23 [a, n]) s.ents = us at *
  clear h hlen hkey hf hz hE
  generalize keyL 23 [a, n] = kt at *
  go_enter Tryz.func9, Tryz.ntmps9
  go_wp2_with fail
  refine HT.out.mono ?_
  rintro e w0 ⟨rfl, hb0⟩
  have hbm := bl_alloc hb0 (.map #[] 0)
  have HK1 := HK.out _ hbm
  simp only [World.size_alloc] at HK1
  have HK1 := Lib.hid HK1
  have hz0 := hb0.size
  have hM0 := World.ownsMap_made (H := Unit) w0 Tryz.prog 3 (plainElem Tryz.prog 4)
  go_wp2_with fail
  refine Calls.mono HK1.out ?_
  rintro e w1 ⟨rfl, hb1⟩
  have hb01 := hbm.trans (hb1.mono (by omega))
  have hb1' : Below (w0.alloc (.map #[] 0)).heap.size (w0.alloc (.map #[] 0)) w1 := by simpa using hb1
  go_wp2_with fail
  refine Calls.mono (HU.out w1 hb01) ?_
  rintro e w2 ⟨ad, c, rfl, hp, hb2⟩
  have hb02 := bl_then hb01 hb2
  have hM2 : w2.ownsMap Tryz.prog 3 (plainElem Tryz.prog 4) w0.heap.size 0 (setZ []) := (hM0.kept (gb_below hb1' none) (by simp)).kept (gb_below hb2 none) (by simp)
  have H0 : Hid (StrTo w2 w0.heap.size us 0 w2) := ⟨hM2, World.grownBy.refl _ _⟩
  have HP := Lib.hid hp
  have HG : Hid (∀ k, k < us.length → ∃ x, us[k]? = some x) := fun k hk => ⟨_, List.getElem?_eq_getElem hk⟩
  have HPC : Hid (∀ k x wr, StrTo w2 w0.heap.size us k wr → us[k]? = some x → ∃ g, ad = some ⟨g, 0, none⟩ ∧ wr.cell? ⟨g, k * 2, none⟩ = some (.string x.1) ∧ wr.cell? ⟨g, k * 2 + 1, none⟩ = some (.string x.2)) := fun k x wr hS hk => by
    obtain ⟨g, e, q1, q2⟩ := hp.at0 k x hk
    have hne := map_ne hM2 q1
    have hbk := hS.2.block g (World.block_lt_of_cell? w2 _ q1) (fun e => hne (by cases e; rfl))
    exact ⟨g, e, (World.cell?_of_block (a := ⟨g, k * 2, none⟩) hbk).trans q1, (World.cell?_of_block (a := ⟨g, k * 2 + 1, none⟩) hbk).trans q2⟩
  have hmb : w.heap.size ≤ w0.heap.size := hz0
  have HEND : Hid (∀ wr, StrTo w2 w0.heap.size us us.length wr → Calls Tryz.prog 38 #[.func (.func 75) #[] #[.pointer (some ⟨wr.heap.size, 0, none⟩)]] (wr.alloc (.cells #[.map (some w0.heap.size)] 67)) fun e W' => ∃ v, e = .returned v ∧ ∀ v', v' = v → ∃ v'', Ending.returned v' = .returned v'' ∧ W'.ownsRow w.heap.size 3 1 v'' (us.filterMap thirdOf).length ((us.filterMap thirdOf).map fun x => Value.int .i64 x) ∧ Below w.heap.size w W') := fun wr hS => by
    have hown := hS.1
    rw [List.take_length] at hown
    have hsz := hown.size_le
    have hL := HL.out
    refine (sorted_call w0.heap.size us.length _ _ wr hown (by unfold maxLen; omega) (by omega)).mono fun e W' ⟨v, ss, he, hp', hrow, hb'⟩ => ⟨v, he, fun v' e' => ⟨v', rfl, ?_, ?_⟩⟩
    · subst e'
      obtain ⟨e1, e2⟩ := sort_rise HR.out.1 HR.out.2 hown hp'
      rw [e1, e2] at hrow
      exact ownsRow_base_a hrow (Nat.le_trans hb02.size hS.2.size)
    · exact bl_then (hb02.grown hS.2 hb02.size fun k hk => by cases hk; exact hmb) hb'
  have HKC : Hid (∀ wr, Calls Tryz.prog 39 #[.map (some w0.heap.size)] wr fun e w' => e = .returned (.func (.func 75) #[] #[.pointer (some ⟨wr.heap.size, 0, none⟩)]) ∧ w' = wr.alloc (.cells #[.map (some w0.heap.size)] 67)) := fun wr => keys_call _ wr
  have hlast : ∀ z, z ∈ us.filterMap thirdOf → 0 ≤ z ∧ z < 9223372036854775808 := HR.out.2
  have HZ : Hid (∀ (k : Nat) (x : Ent) z, us[k]? = some x → thirdOf x = some z → 0 ≤ z ∧ z < 9223372036854775808) := fun k x z hk hx => hlast z (List.mem_filterMap.2 ⟨x, List.mem_of_getElem? hk, hx⟩)
  clear hp hb1 hb1' hb0 HT HU HK HK1 hb2 hb01 hb02 hbm hM0 hM2 hlast HR hz0
  generalize w0.heap.size = mb at *
  go_wp2_with fail
  go_loopw [26] (fun iv wr => ∃ k : Nat, iv = .int .i64 k ∧ k ≤ us.length ∧ StrTo w2 mb us k wr) (fun iv _ => us.length - (intOf iv).toNat)
  case atStart => exact ⟨0, rfl, by omega, H0.out⟩
  case round =>
    obtain ⟨k, rfl, hk, hR⟩ := hrel
    have HRK := Lib.hid hR
    clear hR H0
    have hL := HL.out
    by_cases hlt : k < us.length
    · obtain ⟨x, hx⟩ := HG.out k hlt
      obtain ⟨g, rfl, c1, c2⟩ := HPC.out k x wr HRK.out hx
      have hba : Below wr.heap.size wr (wr.alloc (.cells #[.string x.1, .string x.2] 71)) := (Below.refl _ wr).alloc (Nat.le_refl _) _
      have hPA := parse_any x.1 (HKS.out k x hx) (wr.alloc (.cells #[.string x.1, .string x.2] 71))
      have hst := filterMap_step thirdOf us k x hx
      cases hn : nums3 x.1 with
      | none =>
        have hto : thirdOf x = none := by unfold thirdOf; rw [hn]; rfl
        rw [hto] at hst
        simp only [Option.toList_none, List.append_nil] at hst
        have HPA : Hid (Calls Tryz.prog 37 #[.string x.1] (wr.alloc (.cells #[.string x.1, .string x.2] 71)) fun e w3 => (∃ (t : Int) (a : Option Addr) (m c : Nat) (ok : Bool), e = .returned (.tuple #[.int .i64 t, .slice a m c, .bool ok]) ∧ ((m : Int) == 3) = false) ∧ StrTo w2 mb us (k + 1) w3) :=
          hPA.mono fun e w3 hr => ⟨parse_n3no hr hn, by
            have hS3 := HRK.out.stay (hba.trans (hr.1.mono (by simp)))
            exact ⟨by rw [hst]; exact hS3.1.mono (Nat.le_succ _), hS3.2⟩⟩
        clear hPA hst hn hx HRK hba
        go_wp2_with fail
        refine Calls.mono HPA.out ?_
        rintro e w3 ⟨⟨t, a3, m3, c3, ok, rfl, hm3⟩, hR3⟩
        have HR3 := Lib.hid hR3
        clear hR3 HPA
        cases ok with
        | true =>
          go_wp2_with fail
          go_roundw
          case rel => exact ⟨k + 1, by go_num, by omega, HR3.out⟩
          case measure => simp [intOf]; omega
        | false =>
          go_wp2_with fail
          go_roundw
          case rel => exact ⟨k + 1, by go_num, by omega, HR3.out⟩
          case measure => simp [intOf]; omega
      | some y =>
        have hto : thirdOf x = some (y.2.2 : Int) := by unfold thirdOf; rw [hn]; rfl
        have hzz := HZ.out k x _ hx hto
        rw [hto] at hst
        simp only [Option.toList_some] at hst
        have HPA : Hid (Calls Tryz.prog 37 #[.string x.1] (wr.alloc (.cells #[.string x.1, .string x.2] 71)) fun e w3 => (∃ (t : Int) (g c : Nat), e = .returned (.tuple #[.int .i64 t, .slice (some ⟨g, 0, none⟩) 3 c, .bool true]) ∧ w3.cell? ⟨g, 2, none⟩ = some (.int .i64 y.2.2) ∧ StrTo w2 mb us k w3)) := by
          refine hPA.mono fun e w3 hr => ?_
          obtain ⟨t, g, c, he, hc⟩ := parse_n3 hr hn
          exact ⟨t, g, c, he, hc _ (Below.refl _ _), HRK.out.stay (hba.trans (hr.1.mono (by simp)))⟩
        have hkey := key_mk hzz.1 hzz.2
        clear hPA hn hx HRK hba hto
        generalize (y.2.2 : Int) = z at *
        have h33 : ((3 : Nat) : Int) = 3 := rfl
        have HST2 : Hid (setZ ((us.take (k + 1)).filterMap thirdOf) = (setZ ((us.take k).filterMap thirdOf)).put (.int .i64 z) (.lit (.bool true))) := by
          show _ = _
          rw [hst, setZ_snoc]
        clear hst
        go_wp2_with fail
        refine Calls.mono HPA.out ?_
        rintro e w3 ⟨t, g3, c3, rfl, hg3, hR3⟩
        have hown3 := hR3.1
        have HG3 := Lib.hid hR3.2
        clear hR3 HPA
        go_wp2_with (at_mapUpdate; refine wpList_mapUpdate_own _ rfl _ _ _ 67 rfl 3 4 key_law Tryz.underlying67 _ mb k _ rfl hown3 (by unfold maxLen; omega) _ _ _ rfl rfl hkey _ [] (plainElem_bool Tryz.underlying4 true) ?_; intro w4 hown4 hgrow4)
        have HR4 : Hid (StrTo w2 mb us (k + 1) w4) := ⟨by rw [HST2.out]; exact hown4, gb_then HG3.out hgrow4⟩
        clear hown4 hgrow4 hown3 HST2 HG3
        go_roundw
        case rel => exact ⟨k + 1, by go_num, by omega, HR4.out⟩
        case measure => simp [intOf]; omega
    · obtain rfl : k = us.length := by omega
      have HE1 := Lib.hid (HEND.out wr HRK.out)
      go_wp2_with fail
      refine Calls.mono (HKC.out wr) ?_
      rintro e w5 ⟨rfl, rfl⟩
      go_wp2_with fail
      refine Calls.mono HE1.out ?_
      rintro e w6 ⟨v, rfl, hv⟩
      have HV := Lib.hid (hv v rfl)
      clear hv
      go_wp2_with fail
      go_ret
      exact HV.out
end Go.Proofs.YtnblhjndngpbnaaGreat
