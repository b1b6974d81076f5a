/- What is proved here: the reference's Strategies: a set's third numbers, in the order of its keys. Its conditions: numbers below 2^63, sizes. -/
import Derived.Test.YtnblhjndngpbnaaGreatServD
namespace Go.Proofs.YtnblhjndngpbnaaGreat
open Go.RowKit

theorem third_step (us : List Ent) (i : Nat) (x : Ent) (h : us[i]? = some x) : (us.take (i + 1)).filterMap thirdOf = (us.take i).filterMap thirdOf ++ (thirdOf x).toList := filterMap_step _ _ _ _ h

set_option maxRecDepth 100000 in
set_option maxHeartbeats 4000000 in
theorem rstrs_any (w : World) (b : Nat) (s : St) (L : List Nat) (f : Nat) (a n : Int) (ha : a < 9223372036854775808) (hnn : n < 9223372036854775808) (h : RRep w b s L) (hf : s.Fit f) (hm : f < 10000000000) (hkey : ∀ x ∈ s.ents, x.1.size < 1000000000000) :
    Calls Tryz.prog 20 #[.pointer (some ⟨b, 0, none⟩), .int .i64 a, .int .i64 n] w fun e W' => ∃ v, e = .returned v ∧ Own W' 3 1 v (strL s a n).length ((strL s a n).map fun x => Value.int .i64 x) ∧ Below w.heap.size w W' := by
  have hlen : s.ents.length < 1000000000000 := by have := hf.size; unfold St.size at this; omega
  have HT := Lib.hid (rsthere_any w b s L f a n ha h hf (by omega))
  have HML : Hid (strL s a n = if sThere s a n then strU s a n else []) := rfl
  have HUD : Hid (strU s a n = (underE (keyL 23 [a, n]) s.ents).filterMap thirdOf) := rfl
  generalize strL s a n = ml at *
  generalize sThere s a n = there at *
  cases there with
  | false =>
    have hml : ml = [] := HML.out
    subst hml
    clear h hf hkey HUD
    go_enter Tryz.func20, Tryz.ntmps20
    go_wp2_with fail
    refine HT.out.mono ?_
    rintro e w1 ⟨rfl, hb1⟩
    go_wp2_with fail
    go_ret
    exact ⟨_, rfl, Own.nil _ _ _, hb1⟩
  | true =>
  have hml : ml = (underE (keyL 23 [a, n]) s.ents).filterMap thirdOf := by rw [HML.out, if_pos rfl, HUD.out]
  subst hml
  clear HML HUD
  have HK : Hid (∀ w1, Below w.heap.size w w1 → Calls Tryz.prog 44 #[.int .i64 23, .slice (some ⟨w1.heap.size, 0, none⟩) 2 2] (w1.alloc (.cells #[.int .i64 a, .int .i64 n] 3)) fun e w2 => e = .returned (.string (keyL 23 [a, n])) ∧ Below w.heap.size w w2) := fun w1 h1 =>
    (rkey_any 23 (by decide) (by decide) _ [a, n] (w1.alloc (.cells #[.int .i64 a, .int .i64 n] 3)) (two_ints w1 a n) (by simp) (fun m hm => by
      simp only [List.mem_cons, List.not_mem_nil, or_false] at hm
      rcases hm with rfl | rfl <;> assumption)).mono fun e w2 ⟨he, hb⟩ => ⟨he, bl_then (bl_alloc h1 _) hb⟩
  have HU : Hid (∀ w1, Below w.heap.size w w1 → Calls Tryz.prog 46 #[.pointer (some ⟨b, 0, none⟩), .string (keyL 23 [a, n])] w1 fun e w2 => ∃ ad c, e = .returned (.slice ad (underE (keyL 23 [a, n]) s.ents).length c) ∧ PairsAt w2 ad (underE (keyL 23 [a, n]) s.ents) ∧ Below w.heap.size w w2) := fun w1 h1 =>
    (runder_any w1 b s L (keyL 23 [a, n]) (h.below h1) hlen).mono fun e w2 ⟨v, he, hO⟩ => by
      obtain ⟨ad, c, rfl, hp⟩ := hO.1.pairs
      exact ⟨ad, c, he, hp, h1.trans (hO.2.2.mono h1.size)⟩
  have HL : Hid ((underE (keyL 23 [a, n]) s.ents).length < 1000000000000) := Nat.lt_of_le_of_lt (underE_len _ _) hlen
  have HKS : Hid (∀ (i : Nat) (x : Ent), (underE (keyL 23 [a, n]) s.ents)[i]? = some x → x.1.size < 1000000000000) := fun i x hx => hkey x (by have h := List.mem_of_getElem? hx; unfold underE at h; exact (List.mem_filter.1 h).1)
  generalize underE (keyL 23 [a, n]) s.ents = us at *
  clear h hlen hkey hf
  generalize keyL 23 [a, n] = kt at *
  go_enter Tryz.func20, Tryz.ntmps20
  go_wp2_with fail
  refine HT.out.mono ?_
  rintro e w0 ⟨rfl, hb0⟩
  go_wp2_with fail
  refine Calls.mono (HK.out w0 hb0) ?_
  rintro e w1 ⟨rfl, hb1⟩
  go_wp2_with fail
  refine Calls.mono (HU.out w1 hb1) ?_
  rintro e w2 ⟨ad, c, rfl, hp, hb2⟩
  have HP := Lib.hid hp
  have HG : Hid (∀ k, k < us.length → ∃ x, us[k]? = some x) := fun k hk => ⟨_, List.getElem?_eq_getElem hk⟩
  have HFL : Hid (∀ k, (((us.take k).filterMap thirdOf).length ≤ k)) := fun k => by
    refine Nat.le_trans (filterMap_len _ _) ?_
    rw [List.length_take]; exact Nat.min_le_left _ _
  have H0 : Hid (IntsOut w2 ((us.take 0).filterMap thirdOf) (.slice none 0 0) w2) := ⟨Own.nil _ _ _, fun g hg => by simp [Value.ownBlock] at hg, Below.refl _ _⟩
  have HEE : Hid (∀ v wr, IntsOut w2 (us.filterMap thirdOf) v wr → ∃ v', Ending.returned v = .returned v' ∧ Own wr 3 1 v' (us.filterMap thirdOf).length ((us.filterMap thirdOf).map fun x => Value.int .i64 x) ∧ Below w.heap.size w wr) := fun v wr hO => ⟨v, rfl, hO.1, hb2.trans (hO.2.2.mono hb2.size)⟩
  clear hp hb1 hb0 HT HU HK hb2
  go_wp2_with fail
  go_loopw [7, 25] (fun v iv wr => ∃ k : Nat, iv = .int .i64 k ∧ k ≤ us.length ∧ IntsOut w2 ((us.take k).filterMap thirdOf) v wr) (fun _ iv _ => us.length - (intOf iv).toNat)
  case atStart => exact ⟨0, rfl, by omega, H0.out⟩
  case round =>
    obtain ⟨k, rfl, hk, hR⟩ := hrel
    have HR := Lib.hid hR
    clear hR H0
    have hL := HL.out
    by_cases hlt : k < us.length
    · obtain ⟨x, hx⟩ := HG.out k hlt
      obtain ⟨g, rfl, q1, q2⟩ := HP.out.at0 k x hx
      have c1 : wr.cell? ⟨g, k * 2, none⟩ = some (.string x.1) := by rw [HR.out.2.2.cell (p := ⟨g, k * 2, none⟩) (World.block_lt_of_cell? w2 _ q1)]; exact q1
      have c2 : wr.cell? ⟨g, k * 2 + 1, none⟩ = some (.string x.2) := by rw [HR.out.2.2.cell (p := ⟨g, k * 2 + 1, none⟩) (World.block_lt_of_cell? w2 _ q2)]; exact q2
      have hba : Below wr.heap.size wr (wr.alloc (.cells #[.string x.1, .string x.2] 71)) := (Below.refl _ wr).alloc (Nat.le_refl _) _
      have hPA := rparse_any x.1 (HKS.out k x hx) (wr.alloc (.cells #[.string x.1, .string x.2] 71))
      have hst := third_step us k x hx
      have hfl := HFL.out k
      clear q1 q2
      cases hn : nums3 x.1 with
      | none =>
        rw [show thirdOf x = none by unfold thirdOf; rw [hn]; rfl] at hst
        simp only [Option.toList_none, List.append_nil] at hst
        have HPA : Hid (Calls Tryz.prog 47 #[.string x.1] (wr.alloc (.cells #[.string x.1, .string x.2] 71)) fun e w3 => (∃ (t : Int) (a : Option Addr) (m c : Nat) (ok : Bool), e = .returned (.tuple #[.int .i64 t, .slice a m c, .bool ok]) ∧ ((m : Int) == 3) = false) ∧ IntsOut w2 ((us.take (k + 1)).filterMap thirdOf) u7 w3) :=
          hPA.mono fun e w3 hr => ⟨parse_n3no hr hn, by rw [hst]; exact HR.out.below (hba.trans (hr.1.mono (by simp)))⟩
        clear hPA hst hn hx HR hba
        go_wp2_with fail
        refine Calls.mono HPA.out ?_
        rintro e w3 ⟨⟨t, a3, m3, c3, ok, rfl, hm3⟩, hR3⟩
        have HR3 := Lib.hid hR3
        clear hR3 HPA
        go_wp2_with fail
        go_roundw
        case rel => exact ⟨k + 1, by go_num, by omega, HR3.out⟩
        case measure => simp [intOf]; omega
      | some y =>
        rw [show thirdOf x = some (y.2.2 : Int) by unfold thirdOf; rw [hn]; rfl] at hst
        simp only [Option.toList_some] at hst
        have HPA : Hid (Calls Tryz.prog 47 #[.string x.1] (wr.alloc (.cells #[.string x.1, .string x.2] 71)) fun e w3 => (∃ (t : Int) (g c : Nat), e = .returned (.tuple #[.int .i64 t, .slice (some ⟨g, 0, none⟩) 3 c, .bool true]) ∧ w3.cell? ⟨g, 2, none⟩ = some (.int .i64 y.2.2) ∧ IntsOut w2 ((us.take k).filterMap thirdOf) u7 w3)) := by
          refine hPA.mono fun e w3 hr => ?_
          obtain ⟨t, g, c, he, hc⟩ := parse_n3 hr hn
          exact ⟨t, g, c, he, hc _ (Below.refl _ _), HR.out.below (hba.trans (hr.1.mono (by simp)))⟩
        have hform := HR.out.form
        clear hPA hn hx HR hba
        generalize (y.2.2 : Int) = z at *
        generalize (us.take k).filterMap thirdOf = fs at *
        obtain ⟨m, hm⟩ : ∃ m, fs.length = m := ⟨_, rfl⟩
        have HM := Lib.hid hm
        rw [hm] at hform hfl
        clear hm
        obtain ⟨av, cv, hv⟩ := hform
        subst hv
        have h33 : ((3 : Nat) : Int) = 3 := rfl
        have HST2 : Hid ((us.take (k + 1)).filterMap thirdOf = fs ++ [z]) := hst
        clear hst
        go_wp2_with fail
        refine Calls.mono HPA.out ?_
        rintro e w3 ⟨t, g3, c3, rfl, hg3, hR3⟩
        have HR3 := Lib.hid hR3
        have HPUSH : Hid (∀ o1 v' w', Appended (w3.alloc o1) 3 1 (.slice av m cv) m 1 (fs.map fun n => Value.int .i64 n) [.int .i64 z] v' w' → IntsOut w2 ((us.take (k + 1)).filterMap thirdOf) v' w') := fun o1 v' w' hA => by
          rw [HST2.out]; exact HR3.out.push (by rw [HM.out]; exact hA)
        have HOO : Hid (∀ o1, Own (w3.alloc o1) 3 1 (.slice av m cv) m (fs.map fun n => Value.int .i64 n)) := fun o1 => by
          have := (HR3.out.below ((Below.refl _ w3).alloc (Nat.le_refl _) o1)).1
          rw [HM.out] at this; exact this
        clear hR3 HST2 HR3 HM HPA
        generalize (fs.map fun n => Value.int .i64 n) = xs at *
        go_wp2_with (at_builtin; refine wpList_append_Own rfl _ _ 32 32 rfl intT intT _ m xs rfl (HOO.out _) _ 1 _ [.int .i64 z] rfl rfl (news_one _ _ _) (by intro u hu; rw [List.mem_singleton.1 hu]; rfl) (by unfold maxLen; omega) (by omega) ?_)
        intro v' w' hA
        have HR2 := Lib.hid (HPUSH.out _ _ _ hA)
        clear hA
        go_wp2_with fail
        go_roundw
        case rel => exact ⟨k + 1, by go_num, by omega, HR2.out⟩
        case measure => simp [intOf]; omega
    · obtain rfl : k = us.length := by omega
      have HE2 := HR.out
      rw [List.take_length] at HE2
      have HE3 := Lib.hid (HEE.out _ _ HE2)
      clear HE2
      go_wp2_with fail
      go_ret
      exact HE3.out
end Go.Proofs.YtnblhjndngpbnaaGreat
