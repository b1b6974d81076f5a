/- What is proved here: the reference's Stakers: the same numbers as the program's. Its conditions: sizes. -/
import Derived.Test.YtbljaikifgpflaaREach
namespace Go.Proofs.Ytbljaikifgpflaa
open Go.RowKit

/-- Whom an entry makes a staker of o. -/
def stakerOf (s : St) (o : Int) (x : Ent) : Option Int := match numOf x.1 with
  | some n => if (s.int x.1 : Int) = o ∧ 0 < o then some (n : Int) else none
  | none => none
theorem stk_hit (s : St) (o : Int) (x : Ent) (n : Nat) (hn : numOf x.1 = some n) (h : (s.int x.1 : Int) = o) (h0 : 0 < o) : stakerOf s o x = some (n : Int) := by
  unfold stakerOf; rw [hn]; simp only []; rw [if_pos ⟨h, h0⟩]
theorem stk_miss (s : St) (o : Int) (x : Ent) (n : Nat) (hn : numOf x.1 = some n) (h : ¬((s.int x.1 : Int) = o ∧ 0 < o)) : stakerOf s o x = none := by
  unfold stakerOf; rw [hn]; simp only []; rw [if_neg h]
theorem stk_step (s : St) (o : Int) (us : List Ent) (i : Nat) (x : Ent) (h : us[i]? = some x) : withE o ((us.take (i + 1)).filterMap (eachOf s)) = withE o ((us.take i).filterMap (eachOf s)) ++ (stakerOf s o x).toList := by
  rw [filterMap_step _ _ _ _ h, eachOf_num]
  cases hn : numOf x.1 with
  | none => simp [stakerOf, hn]
  | some n =>
    simp only [Option.map_some, Option.toList_some]
    by_cases hc : (s.int x.1 : Int) = o ∧ 0 < o
    · rw [stk_hit s o x n hn hc.1 hc.2, withE_hit _ _ _ hc.1 hc.2]; rfl
    · rw [stk_miss s o x n hn hc, withE_miss _ _ _ hc]; simp

theorem rsint_any {w : World} {b : Nat} {s : St} {L : List Nat} (h : RRep w b s L) (hv : ∀ k, (s.val k).size < 1000000000000) (hz : s.size < 1000000000000) :
    Hid (∀ w1 k, Below w.heap.size w w1 → Calls Try.prog 33 #[.pointer (some ⟨b, 0, none⟩), .string k] w1 (RetInt w1 (s.int k))) := fun w1 k h1 => rint_at w1 b s L k (h.below h1) (hv k) hz

set_option maxRecDepth 100000 in
set_option maxHeartbeats 4000000 in
theorem rstakers_any (w : World) (b : Nat) (o : Int) (s : St) (L : List Nat) (hv : ∀ k, (s.val k).size < 1000000000000) (hz : s.size < 1000000000000) (h : RRep w b s L) (hlen : s.ents.length < 1000000000000) (hkey : ∀ x ∈ s.ents, x.1.size < 1000000000000) :
    Calls Try.prog 19 #[.pointer (some ⟨b, 0, none⟩), .int .i64 o] w fun e W' => ∃ v, e = .returned v ∧ Own W' 3 1 v (withE o (eachE 9 s)).length ((withE o (eachE 9 s)).map fun x => Value.int .i64 x) ∧ Below w.heap.size w W' := by
  have HK := Lib.hid (rkey_new0 9 (by decide) (by decide) w)
  have HU : Hid (∀ w1, Below w.heap.size w w1 → Calls Try.prog 35 #[.pointer (some ⟨b, 0, none⟩), .string (keyL 9 [])] w1 fun e w2 => ∃ a c, e = .returned (.slice a (underE (keyL 9 []) s.ents).length c) ∧ PairsAt w2 a (underE (keyL 9 []) s.ents) ∧ Below w.heap.size w w2) := fun w1 h1 =>
    (runder_any w1 b s L (keyL 9 []) (h.below h1) hlen).mono fun e w2 ⟨v, he, hO⟩ => by
      obtain ⟨a, c, rfl, hp⟩ := hO.1.pairs
      exact ⟨a, c, he, hp, h1.trans (hO.2.2.mono h1.size)⟩
  have HE : Hid (∀ w2 v wr, Below w.heap.size w w2 → IntsOut w2 (withE o ((underE (keyL 9 []) s.ents).filterMap (eachOf s))) v wr → ∃ v', Ending.returned v = .returned v' ∧ Own wr 3 1 v' (withE o (eachE 9 s)).length ((withE o (eachE 9 s)).map fun x => Value.int .i64 x) ∧ Below w.heap.size w wr) := fun w2 v wr hb hO => by
    refine ⟨v, rfl, ?_, hb.trans (hO.2.2.mono hb.size)⟩
    exact hO.1
  have HI := rsint_any h hv hz
  have HL : Hid ((underE (keyL 9 []) s.ents).length < 1000000000000) := Nat.lt_of_le_of_lt (underE_len _ _) hlen
  have HKS : Hid (∀ (i : Nat) (x : Ent), (underE (keyL 9 []) s.ents)[i]? = some x → x.1.size < 1000000000000) := fun i x hx => hkey x (by have h := List.mem_of_getElem? hx; unfold underE at h; exact (List.mem_filter.1 h).1)
  have HST : Hid (∀ (i : Nat) (x : Ent), (underE (keyL 9 []) s.ents)[i]? = some x → withE o (((underE (keyL 9 []) s.ents).take (i + 1)).filterMap (eachOf s)) = withE o (((underE (keyL 9 []) s.ents).take i).filterMap (eachOf s)) ++ (stakerOf s o x).toList) := fun i x hx => stk_step s o _ i x hx
  generalize underE (keyL 9 []) s.ents = us at *
  clear h hlen hkey
  generalize keyL 9 [] = kt at *
  go_enter Try.func19, Try.ntmps19
  go_wp2_with fail
  refine Calls.mono HK.out ?_
  rintro e w1 ⟨rfl, hb1⟩
  go_wp2_with fail
  refine Calls.mono (HU.out w1 hb1) ?_
  rintro e w2 ⟨a, c, rfl, hp, hb2⟩
  have HP := Lib.hid hp
  have HG : Hid (∀ k, k < us.length → ∃ x, us[k]? = some x) := fun k hk => ⟨_, List.getElem?_eq_getElem hk⟩
  have HFL : Hid (∀ k, ((withE o ((us.take k).filterMap (eachOf s))).length ≤ k)) := fun k => by
    refine Nat.le_trans (withE_len _ _) (Nat.le_trans (filterMap_len _ _) ?_)
    rw [List.length_take]; exact Nat.min_le_left _ _
  have H0 : Hid (IntsOut w2 (withE o ((us.take 0).filterMap (eachOf s))) (.slice none 0 0) w2) := ⟨Own.nil _ _ _, fun g hg => by simp [Value.ownBlock] at hg, Below.refl _ _⟩
  have HEE : Hid (∀ v wr, IntsOut w2 (withE o (us.filterMap (eachOf s))) v wr → ∃ v', Ending.returned v = .returned v' ∧ Own wr 3 1 v' (withE o (eachE 9 s)).length ((withE o (eachE 9 s)).map fun x => Value.int .i64 x) ∧ Below w.heap.size w wr) := fun v wr hO => HE.out w2 v wr hb2 hO
  have HB2 := Lib.hid hb2
  clear hp hb1 HU HK HE hb2
  go_wp2_with fail
  go_loopw [5, 15] (fun v iv wr => ∃ k : Nat, iv = .int .i64 k ∧ k ≤ us.length ∧ IntsOut w2 (withE o ((us.take k).filterMap (eachOf s))) v wr) (fun _ iv _ => us.length - (intOf iv).toNat)
  case atStart => exact ⟨0, rfl, by omega, H0.out⟩
  case round =>
    obtain ⟨k, rfl, hk, hR⟩ := hrel
    have HR := Lib.hid hR
    clear hR H0
    have hL := HL.out
    by_cases hlt : k < us.length
    · obtain ⟨x, hx⟩ := HG.out k hlt
      obtain ⟨g, rfl, q1, q2⟩ := HP.out.at0 k x hx
      have c1 : wr.cell? ⟨g, k * 2, none⟩ = some (.string x.1) := by rw [HR.out.2.2.cell (p := ⟨g, k * 2, none⟩) (World.block_lt_of_cell? w2 _ q1)]; exact q1
      have c2 : wr.cell? ⟨g, k * 2 + 1, none⟩ = some (.string x.2) := by rw [HR.out.2.2.cell (p := ⟨g, k * 2 + 1, none⟩) (World.block_lt_of_cell? w2 _ q2)]; exact q2
      have hba : Below wr.heap.size wr (wr.alloc (.cells #[.string x.1, .string x.2] 70)) := (Below.refl _ wr).alloc (Nat.le_refl _) _
      have hPA := rparse_any x.1 (HKS.out k x hx) (wr.alloc (.cells #[.string x.1, .string x.2] 70))
      have hst := HST.out k x hx
      have hfl := HFL.out k
      clear q1 q2
      cases hn : numOf x.1 with
      | none =>
        rw [show stakerOf s o x = none by unfold stakerOf; rw [hn]] at hst
        simp only [Option.toList_none, List.append_nil] at hst
        have HPA : Hid (Calls Try.prog 36 #[.string x.1] (wr.alloc (.cells #[.string x.1, .string x.2] 70)) fun e w3 => (∃ (t : Int) (a : Option Addr) (m c : Nat) (ok : Bool), e = .returned (.tuple #[.int .i64 t, .slice a m c, .bool ok]) ∧ ((m : Int) == 1) = false) ∧ IntsOut w2 (withE o ((us.take (k + 1)).filterMap (eachOf s))) u5 w3) :=
          hPA.mono fun e w3 hr => ⟨parse_not hr hn, by rw [hst]; exact HR.out.below (hba.trans (hr.1.mono (by simp)))⟩
        clear hPA hst hn hx HR hba
        go_wp2_with fail
        refine Calls.mono HPA.out ?_
        rintro e w3 ⟨⟨t, a3, m3, c3, ok, rfl, hm3⟩, hR3⟩
        have HR3 := Lib.hid hR3
        clear hR3 HPA
        go_wp2_with fail
        go_roundw
        case rel => exact ⟨k + 1, by go_num, by omega, HR3.out⟩
        case measure => simp [intOf]; omega
      | some n =>
        have HPA : Hid (Calls Try.prog 36 #[.string x.1] (wr.alloc (.cells #[.string x.1, .string x.2] 70)) fun e w3 => (∃ (t : Int) (g c : Nat), e = .returned (.tuple #[.int .i64 t, .slice (some ⟨g, 0, none⟩) 1 c, .bool true]) ∧ w3.cell? ⟨wr.heap.size, 0, none⟩ = some (.string x.1) ∧
            Calls Try.prog 33 #[.pointer (some ⟨b, 0, none⟩), .string x.1] w3 fun e w4 => e = .returned (.int .i64 (s.int x.1)) ∧ w4.cell? ⟨g, 0, none⟩ = some (.int .i64 n) ∧ IntsOut w2 (withE o ((us.take k).filterMap (eachOf s))) u5 w4)) := by
          refine hPA.mono fun e w3 hr => ?_
          obtain ⟨t, g, c, he, hc⟩ := parse_one hr n hn
          have hb3 := hba.trans (hr.1.mono (by simp))
          refine ⟨t, g, c, he, ?_, ?_⟩
          · rw [hr.1.cell (p := ⟨wr.heap.size, 0, none⟩) (by simp), cell_of_row _ _ _ _ _ _ (heap_alloc_new wr _)]; rfl
          · refine (HI.out w3 x.1 (HB2.out.trans (((HR.out.2.2).trans (hb3.mono HR.out.2.2.size)).mono HB2.out.size))).mono fun e w4 ⟨he, hb4⟩ => ⟨he, hc _ hb4, ?_⟩
            exact HR.out.below (hb3.trans (hb4.mono hb3.size))
        have hform := HR.out.form
        have hmiss := stk_miss s o x n hn
        have hhit := stk_hit s o x n hn
        clear hPA hn hx HR hba HI
        generalize s.int x.1 = y at *
        generalize withE o ((us.take k).filterMap (eachOf s)) = fs at *
        obtain ⟨m, hm⟩ : ∃ m, fs.length = m := ⟨_, rfl⟩
        have HM := Lib.hid hm
        rw [hm] at hform hfl
        clear hm
        obtain ⟨av, cv, hv⟩ := hform
        subst hv
        by_cases hyo : (y : Int) = o
        · have hd1 : ((y : Int) == o) = true := beq_iff_eq.2 hyo
          by_cases ho0 : 0 < o
          · have hd2 : decide (0 < o) = true := decide_eq_true ho0
            rw [hhit hyo ho0] at hst
            have HST2 := Lib.hid hst
            clear hst hmiss hhit hyo
            go_wp2_with fail
            refine Calls.mono HPA.out ?_
            rintro e w3 ⟨t, g3, c3, rfl, hp3, hC⟩
            have HC := Lib.hid hC
            clear hC HPA
            go_wp2_with fail
            refine Calls.mono HC.out ?_
            rintro e w4 ⟨rfl, hg3, hR3⟩
            have HR3 := Lib.hid hR3
            have HPUSH : Hid (∀ o1 v' w', Appended (w4.alloc o1) 3 1 (.slice av m cv) m 1 (fs.map fun n => Value.int .i64 n) [.int .i64 n] v' w' → IntsOut w2 (withE o ((us.take (k + 1)).filterMap (eachOf s))) v' w') := fun o1 v' w' hA => by
              rw [HST2.out]; exact HR3.out.push (by rw [HM.out]; exact hA)
            have HOO : Hid (∀ o1, Own (w4.alloc o1) 3 1 (.slice av m cv) m (fs.map fun n => Value.int .i64 n)) := fun o1 => by
              have := (HR3.out.below ((Below.refl _ w4).alloc (Nat.le_refl _) o1)).1
              rw [HM.out] at this; exact this
            clear hR3 HC HST2 HR3 HM
            generalize (fs.map fun n => Value.int .i64 n) = xs at *
            go_wp2_with (at_builtin; refine wpList_append_Own rfl _ _ 34 34 rfl intT intT _ m xs rfl (HOO.out _) _ 1 _ [.int .i64 n] rfl rfl (news_one _ _ _) (by intro u hu; rw [List.mem_singleton.1 hu]; rfl) (by unfold maxLen; omega) (by omega) ?_)
            intro v' w' hA
            have HR2 := Lib.hid (HPUSH.out _ _ _ hA)
            clear hA
            go_wp2_with fail
            go_roundw
            case rel => exact ⟨k + 1, by go_num, by omega, HR2.out⟩
            case measure => simp [intOf]; omega
          · have hd2 : decide (0 < o) = false := decide_eq_false ho0
            rw [hmiss (fun h => ho0 h.2)] at hst
            have HST2 := Lib.hid (show withE o ((us.take (k + 1)).filterMap (eachOf s)) = fs by simpa using hst)
            clear hst hmiss hhit hyo ho0
            go_wp2_with fail
            refine Calls.mono HPA.out ?_
            rintro e w3 ⟨t, g3, c3, rfl, hp3, hC⟩
            have HC := Lib.hid hC
            clear hC HPA
            go_wp2_with fail
            refine Calls.mono HC.out ?_
            rintro e w4 ⟨rfl, hg3, hR3⟩
            have HR3 : Hid (IntsOut w2 (withE o ((us.take (k + 1)).filterMap (eachOf s))) (.slice av m cv) w4) := by rw [HST2.out]; exact hR3
            clear hR3 HC HST2 HM
            go_wp2_with fail
            go_roundw
            case rel => exact ⟨k + 1, by go_num, by omega, HR3.out⟩
            case measure => simp [intOf]; omega
        · have hd1 : ((y : Int) == o) = false := beq_eq_false_iff_ne.2 hyo
          rw [hmiss (fun h => hyo h.1)] at hst
          have HST2 := Lib.hid (show withE o ((us.take (k + 1)).filterMap (eachOf s)) = fs by simpa using hst)
          clear hst hmiss hhit hyo
          go_wp2_with fail
          refine Calls.mono HPA.out ?_
          rintro e w3 ⟨t, g3, c3, rfl, hp3, hC⟩
          have HC := Lib.hid hC
          clear hC HPA
          go_wp2_with fail
          refine Calls.mono HC.out ?_
          rintro e w4 ⟨rfl, hg3, hR3⟩
          have HR3 : Hid (IntsOut w2 (withE o ((us.take (k + 1)).filterMap (eachOf s))) (.slice av m cv) w4) := by rw [HST2.out]; exact hR3
          clear hR3 HC HST2 HM
          go_wp2_with fail
          go_roundw
          case rel => exact ⟨k + 1, by go_num, by omega, HR3.out⟩
          case measure => simp [intOf]; omega
    · obtain rfl : k = us.length := by omega
      have HE2 := HR.out
      rw [List.take_length] at HE2
      have HE3 := Lib.hid (HEE.out _ _ HE2)
      clear HE2
      go_wp2_with fail
      go_ret
      exact HE3.out
end Go.Proofs.Ytbljaikifgpflaa
