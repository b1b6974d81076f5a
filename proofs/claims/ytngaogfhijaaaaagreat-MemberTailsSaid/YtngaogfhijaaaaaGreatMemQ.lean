/- What is proved here: the reference's Members: the same numbers as the program's. Its conditions: numbers below 2^63, sizes. -/
import Derived.Test.YtngaogfhijaaaaaGreatMemM
import Derived.Test.YtngaogfhijaaaaaGreatIntsQ
namespace Go.Proofs.YtngaogfhijaaaaaGreat
open Go.RowKit

/-- A key's three numbers. -/
def num3 (k : ByteArray) : Option (Nat × Nat × Nat) := match parseK k with
  | some (_, [x, y, z]) => some (x, y, z)
  | _ => none

theorem memOf_num (s : St) (x : Ent) : memOf s x = (num3 x.1).map fun y => ((y.2.2 : Int), mP s y.1 y.2.1 y.2.2) := by
  unfold memOf num3
  split <;> rename_i h <;> simp [h]

theorem parse_three {w w' : World} {k : ByteArray} {e : Ending} (h : RetParse w (parseK k) e w') {x y z : Nat} (hn : num3 k = some (x, y, z)) : ∃ (t : Int) (g c : Nat), e = .returned (.tuple #[.int .i64 t, .slice (some ⟨g, 0, none⟩) 3 c, .bool true]) ∧ ∀ w2, Below w'.heap.size w' w2 → w2.cell? ⟨g, 0, none⟩ = some (.int .i64 x) ∧ w2.cell? ⟨g, 1, none⟩ = some (.int .i64 y) ∧ w2.cell? ⟨g, 2, none⟩ = some (.int .i64 z) := by
  unfold num3 at hn
  cases hp : parseK k with
  | none => rw [hp] at hn; cases hn
  | some p =>
    obtain ⟨t, ns⟩ := p
    rw [hp] at hn h
    match ns, hn with
    | [_, _, _], hn =>
      cases hn
      obtain ⟨_, v, he, ho, _⟩ := h
      obtain ⟨g, c, rfl, hc⟩ := own_three ho
      exact ⟨t, g, c, he, hc⟩

theorem parse_not3 {w w' : World} {k : ByteArray} {e : Ending} (h : RetParse w (parseK k) e w') (hn : num3 k = none) : ∃ (t : Int) (a : Option Addr) (m c : Nat) (ok : Bool), e = .returned (.tuple #[.int .i64 t, .slice a m c, .bool ok]) ∧ ((m : Int) == 3) = false := by
  unfold num3 at hn
  cases hp : parseK k with
  | none =>
    rw [hp] at h
    obtain ⟨_, he⟩ := h
    exact ⟨0, none, 0, 0, false, he, by decide⟩
  | some y =>
    obtain ⟨t, ns⟩ := y
    rw [hp] at hn h
    obtain ⟨_, v, he, ho, _⟩ := h
    obtain ⟨a, c, rfl, _⟩ := ho.form
    refine ⟨t, a, ns.length, c, true, he, ?_⟩
    rw [beq_eq_false_iff_ne]
    intro e1
    have h1 : ns.length = 3 := by omega
    match ns, h1 with
    | [_, _, _], _ => cases hn

/-- Whom an entry makes a member of a set. -/
def inOf (s : St) (a n : Int) (x : Ent) : Option Int := match num3 x.1 with
  | some y => if mIn s a n y.2.2 then some (y.2.2 : Int) else none
  | none => none

theorem num3_under {s : St} {a n : Int} (ha0 : 0 ≤ a) (ha : a < 9223372036854775808) (hn0 : 0 ≤ n) (hn : n < 9223372036854775808) {x : Ent} (hx : x ∈ underE (keyL 24 [a, n]) s.ents) {y : Nat × Nat × Nat} (h : num3 x.1 = some y) : (y.1 : Int) = a ∧ (y.2.1 : Int) = n ∧ y.2.2 < 9223372036854775808 := by
  unfold num3 at h
  split at h
  · rename_i t p q r hp
    cases h
    obtain ⟨h1, h2⟩ := key_parse hp
    unfold underE at hx
    have hpre := (List.mem_filter.1 hx).2
    have e1 : keyL 24 [a, n] = keyL 24 (asInts [a.toNat, n.toNat]) := by
      have e2 : asInts [a.toNat, n.toNat] = [a, n] := by simp [asInts]; omega
      rw [e2]
    rw [h1, e1] at hpre
    have := pre23 (by omega) (by omega) (h2 p (by simp)) (h2 q (by simp)) hpre
    exact ⟨by simp only; omega, by simp only; omega, h2 r (by simp)⟩
  · cases h

theorem in_step (s : St) (a n : Int) (ha0 : 0 ≤ a) (ha : a < 9223372036854775808) (hn0 : 0 ≤ n) (hn : n < 9223372036854775808) (i : Nat) (x : Ent) (h : (underE (keyL 24 [a, n]) s.ents)[i]? = some x) :
    pickIn (((underE (keyL 24 [a, n]) s.ents).take (i + 1)).filterMap (memOf s)) = pickIn (((underE (keyL 24 [a, n]) s.ents).take i).filterMap (memOf s)) ++ (inOf s a n x).toList := by
  rw [filterMap_step _ _ _ _ h, memOf_num]
  cases hk : num3 x.1 with
  | none => simp [inOf, hk]
  | some y =>
    obtain ⟨h1, h2, _⟩ := num3_under ha0 ha hn0 hn (List.mem_of_getElem? h) hk
    have hi : inOf s a n x = if mIn s a n y.2.2 then some (y.2.2 : Int) else none := by unfold inOf; rw [hk]
    rw [hi]
    simp only [Option.map_some, Option.toList_some]
    rw [h1, h2]
    by_cases hm : (mP s a n y.2.2).1 = 1
    · rw [pickIn_hit _ _ hm, if_pos (show mIn s a n y.2.2 = true by unfold mIn; rw [hm]; rfl)]; rfl
    · rw [pickIn_miss _ _ hm, if_neg (show ¬mIn s a n y.2.2 = true by unfold mIn; simpa using hm)]; simp

set_option maxRecDepth 100000 in
set_option maxHeartbeats 4000000 in
theorem rmembers_any (w : World) (b : Nat) (s : St) (L : List Nat) (f : Nat) (a n : Int) (ha0 : 0 ≤ a) (ha : a < 9223372036854775808) (hnn : n < 9223372036854775808) (h : RRep w b s L) (hf : s.Fit f) (hm : f < 10000000000) (hkey : ∀ x ∈ s.ents, x.1.size < 1000000000000) :
    Calls Tryz.prog 19 #[.pointer (some ⟨b, 0, none⟩), .int .i64 a, .int .i64 n] w fun e W' => ∃ v, e = .returned v ∧ Own W' 3 1 v (memL a n s).length ((memL a n s).map fun x => Value.int .i64 x) ∧ Below w.heap.size w W' := by
  have hlen : s.ents.length < 1000000000000 := by have := hf.size; unfold St.size at this; omega
  have HT := Lib.hid (rsthere_any w b s L f a n ha h hf (by omega))
  have HML : Hid (memL a n s = if sThere s a n then pickIn (memE a n s) else []) := rfl
  have HN0 : Hid (sThere s a n = true → 0 ≤ n) := fun h1 => by
    unfold sThere at h1
    rw [Bool.and_eq_true, decide_eq_true_iff] at h1
    exact h1.1
  generalize memL a n s = ml at *
  generalize sThere s a n = there at *
  cases there with
  | false =>
    have hml : ml = [] := HML.out
    subst hml
    clear h hf hkey HN0
    go_enter Tryz.func19, Tryz.ntmps19
    go_wp2_with fail
    refine HT.out.mono ?_
    rintro e w1 ⟨rfl, hb1⟩
    go_wp2_with fail
    go_ret
    exact ⟨_, rfl, Own.nil _ _ _, hb1⟩
  | true =>
  have hml : ml = pickIn (memE a n s) := HML.out
  subst hml
  have hn0 : 0 ≤ n := HN0.out rfl
  clear HML HN0
  have HK : Hid (∀ w1, Below w.heap.size w w1 → Calls Tryz.prog 54 #[.int .i64 24, .slice (some ⟨w1.heap.size, 0, none⟩) 2 2] (w1.alloc (.cells #[.int .i64 a, .int .i64 n] 3)) fun e w2 => e = .returned (.string (keyL 24 [a, n])) ∧ Below w.heap.size w w2) := fun w1 h1 =>
    (rkey_any 24 (by decide) (by decide) _ [a, n] (w1.alloc (.cells #[.int .i64 a, .int .i64 n] 3)) (two_ints w1 a n) (by simp) (fun m hm => by
      simp only [List.mem_cons, List.not_mem_nil, or_false] at hm
      rcases hm with rfl | rfl <;> assumption)).mono fun e w2 ⟨he, hb⟩ => ⟨he, bl_then (bl_alloc h1 _) hb⟩
  have HU : Hid (∀ w1, Below w.heap.size w w1 → Calls Tryz.prog 53 #[.pointer (some ⟨b, 0, none⟩), .string (keyL 24 [a, n])] w1 fun e w2 => ∃ ad c, e = .returned (.slice ad (underE (keyL 24 [a, n]) s.ents).length c) ∧ PairsAt w2 ad (underE (keyL 24 [a, n]) s.ents) ∧ Below w.heap.size w w2) := fun w1 h1 =>
    (runder_any w1 b s L (keyL 24 [a, n]) (h.below h1) hlen).mono fun e w2 ⟨v, he, hO⟩ => by
      obtain ⟨ad, c, rfl, hp⟩ := hO.1.pairs
      exact ⟨ad, c, he, hp, h1.trans (hO.2.2.mono h1.size)⟩
  have HE : Hid (∀ w2 v wr, Below w.heap.size w w2 → IntsOut w2 (pickIn ((underE (keyL 24 [a, n]) s.ents).filterMap (memOf s))) v wr → ∃ v', Ending.returned v = .returned v' ∧ Own wr 3 1 v' (pickIn (memE a n s)).length ((pickIn (memE a n s)).map fun x => Value.int .i64 x) ∧ Below w.heap.size w wr) := fun w2 v wr hb hO => by
    refine ⟨v, rfl, ?_, hb.trans (hO.2.2.mono hb.size)⟩
    exact hO.1
  have HI : Hid (∀ w1 o, o < 9223372036854775808 → Below w.heap.size w w1 → Calls Tryz.prog 16 #[.pointer (some ⟨b, 0, none⟩), .int .i64 a, .int .i64 n, .int .i64 o] w1 (RetBool w1 (mIn s a n o))) := fun w1 o ho h1 => rmIn_any w1 b s L f a n o ha hnn ho (h.below h1) hf (by omega)
  have HL : Hid ((underE (keyL 24 [a, n]) s.ents).length < 1000000000000) := Nat.lt_of_le_of_lt (underE_len _ _) hlen
  have HKS : Hid (∀ (i : Nat) (x : Ent), (underE (keyL 24 [a, n]) s.ents)[i]? = some x → x.1.size < 1000000000000) := fun i x hx => hkey x (by have h := List.mem_of_getElem? hx; unfold underE at h; exact (List.mem_filter.1 h).1)
  have HST : Hid (∀ (i : Nat) (x : Ent), (underE (keyL 24 [a, n]) s.ents)[i]? = some x → pickIn (((underE (keyL 24 [a, n]) s.ents).take (i + 1)).filterMap (memOf s)) = pickIn (((underE (keyL 24 [a, n]) s.ents).take i).filterMap (memOf s)) ++ (inOf s a n x).toList) := fun i x hx => in_step s a n ha0 ha hn0 hnn i x hx
  have HZ : Hid (∀ (i : Nat) (x : Ent) y, (underE (keyL 24 [a, n]) s.ents)[i]? = some x → num3 x.1 = some y → y.2.2 < 9223372036854775808) := fun i x y hx hy => (num3_under ha0 ha hn0 hnn (List.mem_of_getElem? hx) hy).2.2
  generalize underE (keyL 24 [a, n]) s.ents = us at *
  clear h hlen hkey hf
  generalize keyL 24 [a, n] = kt at *
  go_enter Tryz.func19, Tryz.ntmps19
  go_wp2_with fail
  refine HT.out.mono ?_
  rintro e w0 ⟨rfl, hb0⟩
  go_wp2_with fail
  refine Calls.mono (HK.out w0 hb0) ?_
  rintro e w1 ⟨rfl, hb1⟩
  go_wp2_with fail
  refine Calls.mono (HU.out w1 hb1) ?_
  rintro e w2 ⟨ad, c, rfl, hp, hb2⟩
  have HP := Lib.hid hp
  have HG : Hid (∀ k, k < us.length → ∃ x, us[k]? = some x) := fun k hk => ⟨_, List.getElem?_eq_getElem hk⟩
  have HFL : Hid (∀ k, ((pickIn ((us.take k).filterMap (memOf s))).length ≤ k)) := fun k => by
    refine Nat.le_trans (pickIn_len _) (Nat.le_trans (filterMap_len _ _) ?_)
    rw [List.length_take]; exact Nat.min_le_left _ _
  have H0 : Hid (IntsOut w2 (pickIn ((us.take 0).filterMap (memOf s))) (.slice none 0 0) w2) := ⟨Own.nil _ _ _, fun g hg => by simp [Value.ownBlock] at hg, Below.refl _ _⟩
  have HEE : Hid (∀ v wr, IntsOut w2 (pickIn (us.filterMap (memOf s))) v wr → ∃ v', Ending.returned v = .returned v' ∧ Own wr 3 1 v' (pickIn (memE a n s)).length ((pickIn (memE a n s)).map fun x => Value.int .i64 x) ∧ Below w.heap.size w wr) := fun v wr hO => HE.out w2 v wr hb2 hO
  have HB2 := Lib.hid hb2
  clear hp hb1 hb0 HT HU HK HE hb2
  go_wp2_with fail
  go_loopw [7, 25] (fun v iv wr => ∃ k : Nat, iv = .int .i64 k ∧ k ≤ us.length ∧ IntsOut w2 (pickIn ((us.take k).filterMap (memOf s))) v wr) (fun _ iv _ => us.length - (intOf iv).toNat)
  case atStart => exact ⟨0, rfl, by omega, H0.out⟩
  case round =>
    obtain ⟨k, rfl, hk, hR⟩ := hrel
    have HR := Lib.hid hR
    clear hR H0
    have hL := HL.out
    by_cases hlt : k < us.length
    · obtain ⟨x, hx⟩ := HG.out k hlt
      obtain ⟨g, rfl, q1, q2⟩ := HP.out.at0 k x hx
      have c1 : wr.cell? ⟨g, k * 2, none⟩ = some (.string x.1) := by rw [HR.out.2.2.cell (p := ⟨g, k * 2, none⟩) (World.block_lt_of_cell? w2 _ q1)]; exact q1
      have c2 : wr.cell? ⟨g, k * 2 + 1, none⟩ = some (.string x.2) := by rw [HR.out.2.2.cell (p := ⟨g, k * 2 + 1, none⟩) (World.block_lt_of_cell? w2 _ q2)]; exact q2
      have hba : Below wr.heap.size wr (wr.alloc (.cells #[.string x.1, .string x.2] 104)) := (Below.refl _ wr).alloc (Nat.le_refl _) _
      have hPA := rparse_any x.1 (HKS.out k x hx) (wr.alloc (.cells #[.string x.1, .string x.2] 104))
      have hst := HST.out k x hx
      have hfl := HFL.out k
      have hz := fun y => HZ.out k x y hx
      clear q1 q2
      cases hn : num3 x.1 with
      | none =>
        rw [show inOf s a n x = none by unfold inOf; rw [hn]] at hst
        simp only [Option.toList_none, List.append_nil] at hst
        have HPA : Hid (Calls Tryz.prog 55 #[.string x.1] (wr.alloc (.cells #[.string x.1, .string x.2] 104)) fun e w3 => (∃ (t : Int) (a : Option Addr) (m c : Nat) (ok : Bool), e = .returned (.tuple #[.int .i64 t, .slice a m c, .bool ok]) ∧ ((m : Int) == 3) = false) ∧ IntsOut w2 (pickIn ((us.take (k + 1)).filterMap (memOf s))) u7 w3) :=
          hPA.mono fun e w3 hr => ⟨parse_not3 hr hn, by rw [hst]; exact HR.out.below (hba.trans (hr.1.mono (by simp)))⟩
        clear hPA hst hn hx HR hba hz
        go_wp2_with fail
        refine Calls.mono HPA.out ?_
        rintro e w3 ⟨⟨t, a3, m3, c3, ok, rfl, hm3⟩, hR3⟩
        have HR3 := Lib.hid hR3
        clear hR3 HPA
        go_wp2_with fail
        go_roundw
        case rel => exact ⟨k + 1, by go_num, by omega, HR3.out⟩
        case measure => simp [intOf]; omega
      | some y =>
        obtain ⟨y0, y1, z⟩ := y
        have hzz : z < 9223372036854775808 := hz _ hn
        have HPA : Hid (Calls Tryz.prog 55 #[.string x.1] (wr.alloc (.cells #[.string x.1, .string x.2] 104)) fun e w3 => (∃ (t : Int) (g c : Nat), e = .returned (.tuple #[.int .i64 t, .slice (some ⟨g, 0, none⟩) 3 c, .bool true]) ∧ w3.cell? ⟨g, 2, none⟩ = some (.int .i64 z) ∧
            Calls Tryz.prog 16 #[.pointer (some ⟨b, 0, none⟩), .int .i64 a, .int .i64 n, .int .i64 z] w3 fun e w4 => e = .returned (.bool (mIn s a n z)) ∧ w4.cell? ⟨g, 2, none⟩ = some (.int .i64 z) ∧ IntsOut w2 (pickIn ((us.take k).filterMap (memOf s))) u7 w4)) := by
          refine hPA.mono fun e w3 hr => ?_
          obtain ⟨t, g, c, he, hc⟩ := parse_three hr hn
          have hb3 := hba.trans (hr.1.mono (by simp))
          refine ⟨t, g, c, he, (hc _ (Below.refl _ _)).2.2, ?_⟩
          refine (HI.out w3 z (by omega) (HB2.out.trans (((HR.out.2.2).trans (hb3.mono HR.out.2.2.size)).mono HB2.out.size))).mono fun e w4 ⟨he, hb4⟩ => ⟨he, (hc _ hb4).2.2, ?_⟩
          exact HR.out.below (hb3.trans (hb4.mono hb3.size))
        have hform := HR.out.form
        have hin : inOf s a n x = if mIn s a n z then some (z : Int) else none := by unfold inOf; rw [hn]
        rw [hin] at hst
        clear hPA hn hx HR hba HI hz hin
        generalize mIn s a n z = iz at *
        generalize pickIn ((us.take k).filterMap (memOf s)) = fs at *
        obtain ⟨m, hm⟩ : ∃ m, fs.length = m := ⟨_, rfl⟩
        have HM := Lib.hid hm
        rw [hm] at hform hfl
        clear hm
        obtain ⟨av, cv, hv⟩ := hform
        subst hv
        have h33 : ((3 : Nat) : Int) = 3 := rfl
        cases iz with
        | true =>
          have HST2 : Hid (pickIn ((us.take (k + 1)).filterMap (memOf s)) = fs ++ [(z : Int)]) := hst
          clear hst
          go_wp2_with fail
          refine Calls.mono HPA.out ?_
          rintro e w3 ⟨t, g3, c3, rfl, hp3, hC⟩
          have HC := Lib.hid hC
          clear hC HPA
          go_wp2_with fail
          refine Calls.mono HC.out ?_
          rintro e w4 ⟨rfl, hg3, hR3⟩
          have HR3 := Lib.hid hR3
          have HPUSH : Hid (∀ o1 v' w', Appended (w4.alloc o1) 3 1 (.slice av m cv) m 1 (fs.map fun n => Value.int .i64 n) [.int .i64 z] v' w' → IntsOut w2 (pickIn ((us.take (k + 1)).filterMap (memOf s))) v' w') := fun o1 v' w' hA => by
            rw [HST2.out]; exact HR3.out.push (by rw [HM.out]; exact hA)
          have HOO : Hid (∀ o1, Own (w4.alloc o1) 3 1 (.slice av m cv) m (fs.map fun n => Value.int .i64 n)) := fun o1 => by
            have := (HR3.out.below ((Below.refl _ w4).alloc (Nat.le_refl _) o1)).1
            rw [HM.out] at this; exact this
          clear hR3 HC HST2 HR3 HM
          generalize (fs.map fun n => Value.int .i64 n) = xs at *
          go_wp2_with (at_builtin; refine wpList_append_Own rfl _ _ 36 36 rfl intT intT _ m xs rfl (HOO.out _) _ 1 _ [.int .i64 z] rfl rfl (news_one _ _ _) (by intro u hu; rw [List.mem_singleton.1 hu]; rfl) (by unfold maxLen; omega) (by omega) ?_)
          intro v' w' hA
          have HR2 := Lib.hid (HPUSH.out _ _ _ hA)
          clear hA
          go_wp2_with fail
          go_roundw
          case rel => exact ⟨k + 1, by go_num, by omega, HR2.out⟩
          case measure => simp [intOf]; omega
        | false =>
          have HST2 : Hid (pickIn ((us.take (k + 1)).filterMap (memOf s)) = fs) := by show _ = _; rw [hst]; simp
          clear hst
          go_wp2_with fail
          refine Calls.mono HPA.out ?_
          rintro e w3 ⟨t, g3, c3, rfl, hp3, hC⟩
          have HC := Lib.hid hC
          clear hC HPA
          go_wp2_with fail
          refine Calls.mono HC.out ?_
          rintro e w4 ⟨rfl, hg3, hR3⟩
          have HR3 : Hid (IntsOut w2 (pickIn ((us.take (k + 1)).filterMap (memOf s))) (.slice av m cv) w4) := by rw [HST2.out]; exact hR3
          clear hR3 HC HST2 HM
          go_wp2_with fail
          go_roundw
          case rel => exact ⟨k + 1, by go_num, by omega, HR3.out⟩
          case measure => simp [intOf]; omega
    · obtain rfl : k = us.length := by omega
      have HE2 := HR.out
      rw [List.take_length] at HE2
      have HE3 := Lib.hid (HEE.out _ _ HE2)
      clear HE2
      go_wp2_with fail
      go_ret
      exact HE3.out
end Go.Proofs.YtngaogfhijaaaaaGreat
