/- What is proved here: roster.each's own function: for every loop body that writes ints' rows and boxes of slices of ints alone. Its conditions: sizes. -/
import Derived.Test.YtbljaikifgpflaaEach
import Derived.Sort.CutIn
namespace Go.Proofs.Ytbljaikifgpflaa
open Go.RowKit Go.Shelf

attribute [local go_sem] Oper.semAt_some

theorem below_then' {A B C : World} (h : Below A.heap.size A B) (k : Below B.heap.size B C) : Below A.heap.size A C := h.trans (k.mono h.size)
theorem below_undrew {w w' : World} (h : Below w.drew.heap.size w.drew w') : Below w.heap.size w w' := ⟨h.os, h.tape, h.output, h.size, h.block⟩

theorem own_one {w : World} {v : Value} {n : Int} {e : Nat} (h : Own w e 1 v 1 [.int .i64 n]) : ∃ g c, v = .slice (some ⟨g, 0, none⟩) 1 c ∧ ∀ w', Below w.heap.size w w' → w'.cell? ⟨g, 0, none⟩ = some (.int .i64 n) := by
  rcases h.2 with ⟨_, h0⟩ | ⟨g, cap, cur, rfl, hg, _, _, _, hx⟩
  · omega
  · refine ⟨g, cap, rfl, fun w' hb => ?_⟩
    have hlt : g < w.heap.size := (Array.getElem?_eq_some_iff.1 hg).1
    rw [hb.cell (p := ⟨g, 0, none⟩) hlt, cell_of_row _ _ _ _ _ _ hg]
    have : cur.toList[0]? = some (.int .i64 n) := by
      have e := congrArg (fun l => l[0]?) hx
      simp only [List.getElem?_take] at e
      simpa using e
    simpa using this

/-- What a round of each's own function has done. -/
def EachAt (n₀ : Nat) (s : St) (us : List Ent) (J : List (Int × Int) → World → Prop) (wc : World) (i : Nat) (wr : World) : Prop := J ((us.take i).filterMap (eachOf s)) wr ∧ KpR n₀ wc wr

theorem EachAt.skip {n₀ : Nat} {s : St} {us : List Ent} {J : List (Int × Int) → World → Prop} {wc : World} {i : Nat} {wr w' : World} {B : Nat} (hJ : AbidesFrom B J) (h : EachAt n₀ s us J wc i wr) {x : Ent} (hx : us[i]? = some x) (hn : eachOf s x = none) (hb : Below wr.heap.size wr w') (hs : n₀ ≤ wr.heap.size) : EachAt n₀ s us J wc (i + 1) w' := by
  refine ⟨?_, h.2.trans (KpR.of_below hb hs)⟩
  rw [filterMap_step _ _ _ _ hx, hn]
  simp only [Option.toList_none, List.append_nil]
  exact hJ _ _ _ none h.1 (grown_below hb) (fun r e => by cases e)

/-- A round whose entry hands something on: what the walk wants behind Parse. -/
def EachB (n₀ : Nat) (s : St) (us : List Ent) (J Jx : List (Int × Int) → World → Prop) (wc : World) (l Bs : Nat) (q : Option Addr) (i : Nat) (x : Ent) (n : Int) (pb : Nat) (e : Ending) (w3 : World) : Prop :=
  ∃ t' g c, e = .returned (.tuple #[.int .i64 t', .slice (some ⟨g, 0, none⟩) 1 c, .bool true]) ∧ (w3.cell? ⟨g, 0, none⟩ = some (.int .i64 n) ∧ w3.cell? ⟨pb, 0, none⟩ = some (.string x.1) ∧ w3.cell? ⟨Bs, 0, none⟩ = some (.pointer q)) ∧
    Calls Try.prog 27 #[.pointer q, .string x.1] w3.drew fun e w4 => e = .returned (.int .i64 (s.int x.1)) ∧ (w4.cell? ⟨g, 0, none⟩ = some (.int .i64 n) ∧ w4.cell? ⟨pb, 0, none⟩ = some (.string x.1) ∧ w4.cell? ⟨Bs, 0, none⟩ = some (.pointer q)) ∧
      YieldAt Fence.wide 3 Try.prog l #[.int .i64 n, .int .i64 (s.int x.1)] w4 fun e W' => ∃ r : Bool, e = .returned (.bool r) ∧ (r = true → EachAt n₀ s us J wc (i + 1) W') ∧ (r = false → ∃ pre, Jx pre W')

set_option maxRecDepth 100000 in
set_option maxHeartbeats 1000000 in
theorem each1_in (l Bs Bt n₀ : Nat) (q : Option Addr) (t : Nat) (ht1 : 1 ≤ t) (ht2 : t ≤ 255) (s : St) (J Jx : List (Int × Int) → World → Prop) (W : World) (hJ : AbidesFrom W.heap.size J)
    (hlen : s.ents.length < 1000000000000) (hkey : ∀ x ∈ s.ents, x.1.size < 1000000000000)
    (hY : ∀ pre x W1, J pre W1 → pre.length < 1000000000000 → YieldAt Fence.wide 3 Try.prog l #[.int .i64 x.1, .int .i64 x.2] W1 fun e W' =>
      (e = .returned (.bool true) ∧ J (pre ++ [x]) W' ∧ KpR n₀ W1 W') ∨ (e = .returned (.bool false) ∧ Jx (pre ++ [x]) W'))
    (hS : ReadAt n₀ W q s) (hn : n₀ ≤ W.heap.size) (hBs : Boxed W Bs 24 (.pointer q)) (hBt : Boxed W Bt 3 (.int .i64 t)) (h0 : J [] W) :
    CallsIn Fence.wide 4 Try.prog 41 (#[.func (.yield l) #[] #[]] ++ #[.pointer (some ⟨Bs, 0, none⟩), .pointer (some ⟨Bt, 0, none⟩)]) W fun e W' => (∃ v, e = .returned v) ∧
      ((∃ ys, ys = eachE t s ∧ J ys W') ∨ (∃ pre, True ∧ Jx pre W')) := by
  have hcB : ∀ w1, Below W.heap.size W w1 → w1.cell? ⟨Bs, 0, none⟩ = some (.pointer q) := fun w1 h1 => (h1.cell (p := ⟨Bs, 0, none⟩) hBs.lt).trans hBs.cell
  have HT : Hid (Calls Try.prog 42 #[.int .i64 t] W.drew fun e w1 => e = .returned (.string (keyL t [])) ∧ Below W.heap.size W w1 ∧ w1.cell? ⟨Bs, 0, none⟩ = some (.pointer q)) :=
    (table_any t ht1 ht2 W.drew).mono fun e w1 ⟨he, hb⟩ => ⟨he, below_undrew hb, hcB w1 (below_undrew hb)⟩
  have HU : Hid (∀ w1, Below W.heap.size W w1 → Calls Try.prog 37 #[.pointer q, .string (keyL t [])] w1 fun e w2 => ∃ a c, e = .returned (.slice a (underE (keyL t []) s.ents).length c) ∧ Own w2 70 2 (.slice a (underE (keyL t []) s.ents).length c) (underE (keyL t []) s.ents).length (pairV (underE (keyL t []) s.ents)) ∧ Below W.heap.size W w2) := fun w1 h1 =>
    ((hS.below (h1.mono hn)).under (keyL t [])).mono fun e w2 ⟨v, he, hO⟩ => by
      obtain ⟨a, c, rfl, _⟩ := hO.1.pairs
      exact ⟨a, c, he, hO.1, h1.trans (hO.2.2.mono h1.size)⟩
  have hc1 := hBs.cell
  have hc2 := hBt.cell
  refine callsIn_of_wp Try.func41 rfl trivial ?_ rfl
  simp only [Try.ntmps41, List.size_toArray, List.length_cons, List.length_nil, Nat.reduceAdd, Nat.reduceSub, Array.replicate_succ, Array.replicate_zero, List.push_toArray, List.append_toArray, List.nil_append, List.cons_append]
  have hmo : Try.prog.follows .mixedOrders = true := by kernel_rfl
  have HL : Hid ((underE (keyL t []) s.ents).length < 1000000000000) := Nat.lt_of_le_of_lt (underE_len _ _) hlen
  have HK : Hid (∀ (i : Nat) (x : Ent), (underE (keyL t []) s.ents)[i]? = some x → x.1.size < 1000000000000) := fun i x hx => hkey x (by have h := List.mem_of_getElem? hx; unfold underE at h; exact (List.mem_filter.1 h).1)
  have HE : Hid (eachE t s = (underE (keyL t []) s.ents).filterMap (eachOf s)) := rfl
  generalize eachE t s = ES at *
  generalize underE (keyL t []) s.ents = us at *
  generalize keyL t [] = kt at *
  gi_wp2
  gi_cut [12, 13, 14] from 15 (fun s12 s13 s14 wc => ∃ a c, s12 = .slice a us.length c ∧ s13 = .int .i64 us.length ∧ s14 = .int .i64 0 ∧ Own wc 70 2 (.slice a us.length c) us.length (pairV us) ∧ Below W.heap.size W wc)
  case first =>
    gi_region_with_o (first
      | (refine ⟨trivial, ?_⟩; gi_at_call 42; refine (callsIn_wide.2 HT.out).mono ?_; rintro e w1 ⟨rfl, hb1, hcw1⟩)
      | (refine ⟨trivial, ?_⟩; gi_at_call 37; refine (callsIn_wide.2 (HU.out _ hb1)).mono ?_; rintro e w2 ⟨a, c, rfl, hO, hb2⟩))
    all_goals
      gi_wp2
      gi_meet
      case rel => exact ⟨a, c, rfl, rfl, rfl, hO, hb2⟩
  case rest =>
    obtain ⟨a, c, rfl, rfl, rfl, hO, hb2⟩ := hcut
    have hJc : J [] wc := hJ _ _ _ none h0 (grown_below hb2) (fun r e => by cases e)
    have HO := Lib.hid hO
    have hsz := hb2.size
    have hSc := hS.below (hb2.mono hn)
    have hBc : Boxed wc Bs 24 (.pointer q) := (hb2.block Bs hBs.lt).trans hBs
    clear hO HU HT hcB hBt hBs hS hc1 hc2 h0
    have hA0 : Hid (EachAt n₀ s us J wc 0 wc) := ⟨by simpa using hJc, KpR.refl _ _⟩
    gi_wp2
    gi_loopw [14] (fun iv wr => ∃ i : Nat, iv = .int .i64 i ∧ i ≤ us.length ∧ EachAt n₀ s us J wc i wr) (fun iv _ => us.length - (intOf iv).toNat)
    case atStart => exact ⟨0, rfl, by omega, hA0.out⟩
    case round =>
      obtain ⟨i, rfl, hi, hAt⟩ := hrel
      have HAt := Lib.hid hAt
      clear hAt hA0
      have hnr : n₀ ≤ wr.heap.size := Nat.le_trans (Nat.le_trans hn hsz) HAt.out.2.1.size
      by_cases hlt : i < us.length
      · obtain ⟨x, hx⟩ : ∃ x, us[i]? = some x := ⟨_, List.getElem?_eq_getElem hlt⟩
        obtain ⟨a', c', e, hp⟩ := (HAt.out.2.own HO.out (by decide) (by decide)).pairs
        cases e
        obtain ⟨g, rfl, hp1, hp2⟩ := hp.at0 i x hx
        clear hp
        have hxk := HK.out i x hx
        have hL := HL.out
        have hba : Below wr.heap.size wr (wr.alloc (.cells #[.string x.1, .string x.2] 70)) := (Below.refl _ wr).alloc (Nat.le_refl _) _
        have HPA := parse_any x.1 hxk (wr.alloc (.cells #[.string x.1, .string x.2] 70))
        cases hpk : parseK x.1 with
        | none =>
          have HP : Hid (Calls Try.prog 43 #[.string x.1] (wr.alloc (.cells #[.string x.1, .string x.2] 70)) fun e w3 => e = .returned (.tuple #[.int .i64 0, .slice none 0 0, .bool false]) ∧ ∀ nq, EachAt n₀ s us J wc (i + 1) (w3.drewN nq)) := by
            refine HPA.mono fun e w3 ⟨hb, hr⟩ => ?_
            rw [hpk] at hr
            exact ⟨hr, fun nq => HAt.out.skip hJ hx (by unfold eachOf; rw [hpk]) (below_drewN (hba.trans (hb.mono (by simp))) nq) hnr⟩
          clear HPA HAt
          gi_wp2_with (refine ⟨trivial, ?_⟩; gi_at_call 43; refine (callsIn_wide.2 HP.out).mono ?_; rintro e w3 ⟨rfl, hA3⟩)
          refine wpIn_region_quiet_lit rfl (by assumption) (by kernel_rfl) ?_
          repeat (gi_big_quiet_step (fail))
          refine BigFrame.wpQuietIn_skip (fun _ _ _ _ => trivial) (by kernel_rfl) ?_
          simp only [Act.put, List.setIfInBounds_toArray, List.set_cons_zero, List.set_cons_succ]
          refine BigFrame.wpQuietIn_skip (fun _ _ _ _ => trivial) (by kernel_rfl) ?_
          simp only [Act.put, List.setIfInBounds_toArray, List.set_cons_zero, List.set_cons_succ]
          repeat (gi_big_quiet_step (fail))
          refine wpQuietIn_nil ?_
          intro _ hw'
          obtain ⟨nq, rfl⟩ := hw'
          gi_wp2
          refine ⟨⟨i + 1, by go_num, by omega, hA3 nq⟩, by simp [intOf]; omega⟩
        | some y =>
          obtain ⟨t', ns⟩ := y
          by_cases h1 : ns.length = 1
          · obtain ⟨n, rfl⟩ : ∃ n, ns = [n] := List.length_eq_one_iff.1 h1
            have hone : eachOf s x = some ((n : Int), (s.int x.1 : Int)) := by unfold eachOf; rw [hpk]
            have hpl : ((us.take i).filterMap (eachOf s)).length < 1000000000000 := by
              have h2 := filterMap_len (eachOf s) (us.take i)
              have h3 : (us.take i).length ≤ us.length := by rw [List.length_take]; omega
              omega
            have hBr := HAt.out.2.box hBc (by decide) (by decide)
            have hSr := hSc.below HAt.out.2.1
            have HP : Hid (Calls Try.prog 43 #[.string x.1] (wr.alloc (.cells #[.string x.1, .string x.2] 70)) (EachB n₀ s us J Jx wc l Bs q i x n wr.heap.size)) := by
              refine HPA.mono fun e w3 ⟨hb, hr⟩ => ?_
              rw [hpk] at hr
              obtain ⟨v, he, ho, _⟩ := hr
              obtain ⟨g2, c2, rfl, hcell⟩ := own_one (n := n) ho
              have hb3 : Below wr.heap.size wr w3 := hba.trans (hb.mono (by simp))
              have hpb : (wr.alloc (.cells #[.string x.1, .string x.2] 70)).cell? ⟨wr.heap.size, 0, none⟩ = some (.string x.1) := by
                rw [cell_of_row _ _ _ _ _ _ (heap_alloc_new wr _)]; rfl
              have hfacts : ∀ w', Below w3.heap.size w3 w' → w'.cell? ⟨g2, 0, none⟩ = some (.int .i64 n) ∧ w'.cell? ⟨wr.heap.size, 0, none⟩ = some (.string x.1) ∧ w'.cell? ⟨Bs, 0, none⟩ = some (.pointer q) := fun w' hw => by
                have hb' := below_then' hb3 hw
                refine ⟨hcell w' hw, ?_, ?_⟩
                · have hb2 := below_then' hb hw
                  rw [hb2.cell (p := ⟨wr.heap.size, 0, none⟩) (by simp)]; exact hpb
                · rw [hb'.cell (p := ⟨Bs, 0, none⟩) hBr.lt]; exact hBr.cell
              refine ⟨t', g2, c2, he, hfacts _ (Below.refl _ _), ?_⟩
              refine ((hSr.below ((below_drewN hb3 1).mono hnr)).int x.1).mono fun e w4 ⟨he4, hb4⟩ => ⟨he4, hfacts w4 (below_undrew hb4), ?_⟩
              have hb4' : Below wr.heap.size wr w4 := below_then' hb3 (below_undrew hb4)
              refine (hY _ ((n : Int), (s.int x.1 : Int)) w4 (hJ _ _ _ none HAt.out.1 (grown_below hb4') (fun r e => by cases e)) hpl).mono fun e W' h => ?_
              rcases h with ⟨rfl, hJ', hK'⟩ | ⟨rfl, hJx'⟩
              · refine ⟨true, rfl, fun _ => ⟨?_, (HAt.out.2.trans (KpR.of_below hb4' hnr)).trans hK'⟩, fun h => (by cases h)⟩
                rw [filterMap_step _ _ _ _ hx, hone]
                exact hJ'
              · exact ⟨false, rfl, fun h => (by cases h), fun _ => ⟨_, hJx'⟩⟩
            clear HPA HAt hpl hone hBr hSr hSc hBc hY
            unfold EachB at HP
            gi_wp2_with (refine ⟨trivial, ?_⟩; gi_at_call 43; refine (callsIn_wide.2 HP.out).mono ?_; rintro e w3 ⟨tt, g2, c2, rfl, ⟨hg2, hpb2, hbs2⟩, hI⟩)
            have HI := Lib.hid hI
            clear hI HP
            first
            | gi_region_with_o (first
              | (refine ⟨trivial, ?_⟩; gi_at_call 27; refine (callsIn_wide.2 HI.out).mono ?_; rintro e w4 ⟨rfl, ⟨hg4, hpb4, hbs4⟩, fn, tmps, assign, body, hy, hR⟩)
              | (refine hR.mono ?_; rintro e W3 ⟨r, rfl, hT, hF⟩))
            | fail "region 4"
            all_goals
              cases r with
              | true =>
                have hA3 := hT rfl
                clear hT hF
                gi_wp2
                refine ⟨⟨i + 1, by go_num, by omega, hA3⟩, by simp [intOf]; omega⟩
              | false =>
                obtain ⟨pre, hA3⟩ := hF rfl
                clear hT hF
                gi_wp2
                refine bodyPost_ret (results_none rfl _ _ _) rfl ?_
                exact ⟨⟨_, rfl⟩, .inr ⟨_, trivial, hA3⟩⟩
          · have hne : ∀ n, ns ≠ [n] := fun n e => h1 (by rw [e]; rfl)
            have hno : eachOf s x = none := by
              unfold eachOf
              rw [hpk]
              match ns, hne with
              | [], _ => rfl
              | [n], h => exact absurd rfl (h n)
              | _ :: _ :: _, _ => rfl
            have hd1 : ((ns.length : Int) == 1) = false := by rw [beq_eq_false_iff_ne]; omega
            have HP : Hid (Calls Try.prog 43 #[.string x.1] (wr.alloc (.cells #[.string x.1, .string x.2] 70)) fun e w3 => (∃ a c, e = .returned (.tuple #[.int .i64 t', .slice a ns.length c, .bool true])) ∧ ∀ nq, EachAt n₀ s us J wc (i + 1) (w3.drewN nq)) := by
              refine HPA.mono fun e w3 ⟨hb, hr⟩ => ?_
              rw [hpk] at hr
              obtain ⟨v, he, ho, _⟩ := hr
              obtain ⟨a, c, rfl, _⟩ := ho.form
              exact ⟨⟨a, c, he⟩, fun nq => HAt.out.skip hJ hx hno (below_drewN (hba.trans (hb.mono (by simp))) nq) hnr⟩
            clear HPA HAt hno hne h1
            gi_wp2_with (refine ⟨trivial, ?_⟩; gi_at_call 43; refine (callsIn_wide.2 HP.out).mono ?_; rintro e w3 ⟨⟨av, cv, rfl⟩, hA3⟩)
            refine wpIn_region_quiet_lit rfl (by assumption) (by kernel_rfl) ?_
            repeat (gi_big_quiet_step (fail))
            refine BigFrame.wpQuietIn_skip (fun _ _ _ _ => trivial) (by kernel_rfl) ?_
            simp only [Act.put, List.setIfInBounds_toArray, List.set_cons_zero, List.set_cons_succ]
            refine BigFrame.wpQuietIn_skip (fun _ _ _ _ => trivial) (by kernel_rfl) ?_
            simp only [Act.put, List.setIfInBounds_toArray, List.set_cons_zero, List.set_cons_succ]
            repeat (gi_big_quiet_step (fail))
            refine wpQuietIn_nil ?_
            intro _ hw'
            obtain ⟨nq, rfl⟩ := hw'
            gi_wp2
            refine ⟨⟨i + 1, by go_num, by omega, hA3 nq⟩, by simp [intOf]; omega⟩
      · obtain rfl : i = us.length := by omega
        have hend := HAt.out.1
        rw [List.take_length, ← HE.out] at hend
        clear hi
        gi_wp2
        go_end0
        exact ⟨⟨_, rfl⟩, .inl ⟨_, rfl, hend⟩⟩
end Go.Proofs.Ytbljaikifgpflaa
