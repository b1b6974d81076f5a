/- What is proved here: member.rows and its own function: for every loop body that writes ints' rows and boxes of slices of ints alone. Its conditions: sizes. -/
import Derived.Test.YtngaogfhijaaaaaGreatKeyG
import Derived.Test.YtngaogfhijaaaaaGreatKpR
import Derived.Test.YtngaogfhijaaaaaGreatHeldIn
import Derived.Sort.CutIn
namespace Go.Proofs.YtngaogfhijaaaaaGreat
open Go.RowKit Go.Shelf

attribute [local go_sem] Oper.semAt_some

/-- What an entry hands on: its last number, and what the row of its three says. -/
def memOf (s : St) (x : Ent) : Option (Int × Nat × Nat) := match parseK x.1 with
  | some (_, [x0, x1, x2]) => some ((x2 : Int), mP s x0 x1 x2)
  | _ => none
/-- What a set's rows hand on. -/
def memE (a n : Int) (s : St) : List (Int × Nat × Nat) := (underE (keyL 24 [a, n]) s.ents).filterMap (memOf s)

set_option maxRecDepth 100000 in
set_option maxHeartbeats 1000000 in
/-- rows' value: a function over its three boxes. -/
theorem rows_any (q : Option Addr) (a n : Int) (w : World) : Calls Tryz.prog 44 #[.pointer q, .int .i64 a, .int .i64 n] w fun e w' =>
    e = .returned (.func (.func 105) #[] #[.pointer (some ⟨w.heap.size, 0, none⟩), .pointer (some ⟨w.heap.size + 1, 0, none⟩), .pointer (some ⟨w.heap.size + 1 + 1, 0, none⟩)]) ∧ w' = ((w.alloc (.cells #[.pointer q] 25)).alloc (.cells #[.int .i64 a] 3)).alloc (.cells #[.int .i64 n] 3) := by
  go_enter Tryz.func44, Tryz.ntmps44
  go_wp2_with fail
  go_ret
  exact ⟨rfl, rfl⟩

theorem own_three {w : World} {v : Value} {x y z : Int} {e : Nat} (h : Own w e 1 v 3 [.int .i64 x, .int .i64 y, .int .i64 z]) : ∃ g c, v = .slice (some ⟨g, 0, none⟩) 3 c ∧ ∀ w', Below w.heap.size w w' → w'.cell? ⟨g, 0, none⟩ = some (.int .i64 x) ∧ w'.cell? ⟨g, 1, none⟩ = some (.int .i64 y) ∧ w'.cell? ⟨g, 2, none⟩ = some (.int .i64 z) := by
  rcases h.2 with ⟨_, h0⟩ | ⟨g, cap, cur, rfl, hg, _, _, _, hx⟩
  · cases h0
  · refine ⟨g, cap, rfl, fun w' hb => ?_⟩
    have hlt : g < w.heap.size := (Array.getElem?_eq_some_iff.1 hg).1
    have hl : cur.toList.take 3 = [Value.int .i64 x, Value.int .i64 y, Value.int .i64 z] := hx
    have e0 := congrArg (fun l => l[0]?) hl
    have e1 := congrArg (fun l => l[1]?) hl
    have e2 := congrArg (fun l => l[2]?) hl
    simp only [List.getElem?_take] at e0 e1 e2
    refine ⟨?_, ?_, ?_⟩
    · rw [hb.cell (p := ⟨g, 0, none⟩) hlt, cell_of_row _ _ _ _ _ _ hg]; simpa using e0
    · rw [hb.cell (p := ⟨g, 1, none⟩) hlt, cell_of_row _ _ _ _ _ _ hg]; simpa using e1
    · rw [hb.cell (p := ⟨g, 2, none⟩) hlt, cell_of_row _ _ _ _ _ _ hg]; simpa using e2

/-- What a round of rows' own function has done. -/
def MemAt (n₀ : Nat) (s : St) (us : List Ent) (J : List (Int × Nat × Nat) → World → Prop) (wc : World) (i : Nat) (wr : World) : Prop := J ((us.take i).filterMap (memOf s)) wr ∧ KpR n₀ wc wr

theorem MemAt.skip {n₀ : Nat} {s : St} {us : List Ent} {J : List (Int × Nat × Nat) → World → Prop} {wc : World} {i : Nat} {wr w' : World} {B : Nat} (hJ : AbidesFrom B J) (h : MemAt n₀ s us J wc i wr) {x : Ent} (hx : us[i]? = some x) (hn : memOf s x = none) (hb : Below wr.heap.size wr w') (hs : n₀ ≤ wr.heap.size) : MemAt n₀ s us J wc (i + 1) w' := by
  refine ⟨?_, h.2.trans (KpR.of_below hb hs)⟩
  rw [filterMap_step _ _ _ _ hx, hn]
  simp only [Option.toList_none, List.append_nil]
  exact hJ _ _ _ none h.1 (grown_below hb) (fun r e => by cases e)

abbrev Cells4 (g Bs : Nat) (q : Option Addr) (x0 x1 x2 : Nat) (w : World) : Prop := w.cell? ⟨g, 0, none⟩ = some (.int .i64 x0) ∧ w.cell? ⟨g, 1, none⟩ = some (.int .i64 x1) ∧ w.cell? ⟨g, 2, none⟩ = some (.int .i64 x2) ∧ w.cell? ⟨Bs, 0, none⟩ = some (.pointer q)

/-- A round whose entry hands something on: what the walk wants behind Parse. -/
def MemB (n₀ : Nat) (s : St) (us : List Ent) (J Jx : List (Int × Nat × Nat) → World → Prop) (wc : World) (l Bs : Nat) (q : Option Addr) (i : Nat) (x0 x1 x2 : Nat) (e : Ending) (w3 : World) : Prop :=
  ∃ t' g c, e = .returned (.tuple #[.int .i64 t', .slice (some ⟨g, 0, none⟩) 3 c, .bool true]) ∧ Cells4 g Bs q x0 x1 x2 w3 ∧
    Calls Tryz.prog 42 #[.pointer q, .int .i64 x0, .int .i64 x1, .int .i64 x2] w3.drew fun e w4 => e = .returned (.agg #[.int .i64 (mP s x0 x1 x2).1, .int .i64 (mP s x0 x1 x2).2]) ∧ Cells4 g Bs q x0 x1 x2 w4 ∧
      YieldAt Fence.wide 3 Tryz.prog l #[.int .i64 x2, .agg #[.int .i64 (mP s x0 x1 x2).1, .int .i64 (mP s x0 x1 x2).2]] w4 fun e W' => ∃ r : Bool, e = .returned (.bool r) ∧ (r = true → MemAt n₀ s us J wc (i + 1) W') ∧ (r = false → ∃ pre, Jx pre W')

set_option maxRecDepth 100000 in
set_option maxHeartbeats 4000000 in
theorem rows1_in (l Bs Ba Bn n₀ : Nat) (q : Option Addr) (a n : Int) (ha : a < 9223372036854775808) (hnn : n < 9223372036854775808) (s : St) (J Jx : List (Int × Nat × Nat) → World → Prop) (W : World) (hJ : AbidesFrom W.heap.size J)
    (hlen : s.ents.length < 1000000000000) (hkey : ∀ x ∈ s.ents, x.1.size < 1000000000000)
    (hY : ∀ pre x W1, J pre W1 → pre.length < 1000000000000 → YieldAt Fence.wide 3 Tryz.prog l #[.int .i64 x.1, .agg #[.int .i64 x.2.1, .int .i64 x.2.2]] W1 fun e W' =>
      (e = .returned (.bool true) ∧ J (pre ++ [x]) W' ∧ KpR n₀ W1 W') ∨ (e = .returned (.bool false) ∧ Jx (pre ++ [x]) W'))
    (hS : ReadAt n₀ W q s) (hn : n₀ ≤ W.heap.size) (hBs : Boxed W Bs 25 (.pointer q)) (hBa : Boxed W Ba 3 (.int .i64 a)) (hBn : Boxed W Bn 3 (.int .i64 n)) (h0 : J [] W) :
    CallsIn Fence.wide 4 Tryz.prog 105 (#[.func (.yield l) #[] #[]] ++ #[.pointer (some ⟨Bs, 0, none⟩), .pointer (some ⟨Ba, 0, none⟩), .pointer (some ⟨Bn, 0, none⟩)]) W fun e W' => (∃ v, e = .returned v) ∧
      ((∃ ys, ys = memE a n s ∧ J ys W') ∨ (∃ pre, True ∧ Jx pre W')) := by
  have hcB : ∀ w1, Below W.heap.size W w1 → w1.cell? ⟨Bs, 0, none⟩ = some (.pointer q) := fun w1 h1 => (h1.cell (p := ⟨Bs, 0, none⟩) hBs.lt).trans hBs.cell
  have HT : Hid (∀ w1, Below W.heap.size W w1 → Calls Tryz.prog 75 #[.int .i64 24, .slice (some ⟨w1.heap.size, 0, none⟩) 2 2] (w1.alloc (.cells #[.int .i64 a, .int .i64 n] 3)).drew fun e w2 => e = .returned (.string (keyL 24 [a, n])) ∧ Below W.heap.size W w2 ∧ w2.cell? ⟨Bs, 0, none⟩ = some (.pointer q)) := fun w1 h1 => by
    refine (key_any 24 (by decide) (by decide) _ [a, n] (w1.alloc (.cells #[.int .i64 a, .int .i64 n] 3)).drew ?_ (by simp) (fun m hm => by
      simp only [List.mem_cons, List.not_mem_nil, or_false] at hm
      rcases hm with rfl | rfl <;> assumption)).mono fun e w2 ⟨he, hb⟩ => ⟨he, ?_⟩
    · exact intsAt_cells (l := [a, n]) fun j z hj => by
        show (w1.alloc (.cells #[.int .i64 a, .int .i64 n] 3)).cell? _ = _
        rw [cell_of_row _ _ _ _ _ _ (heap_alloc_new w1 _)]
        match j, hj with
        | 0, hj => cases hj; rfl
        | 1, hj => cases hj; rfl
    · have hb' := bl_then (bl_drew (bl_alloc h1 (.cells #[.int .i64 a, .int .i64 n] 3))) hb
      exact ⟨hb', hcB _ hb'⟩
  have HU : Hid (∀ w1, Below W.heap.size W w1 → Calls Tryz.prog 56 #[.pointer q, .string (keyL 24 [a, n])] w1 fun e w2 => ∃ a' c, e = .returned (.slice a' (underE (keyL 24 [a, n]) s.ents).length c) ∧ Own w2 104 2 (.slice a' (underE (keyL 24 [a, n]) s.ents).length c) (underE (keyL 24 [a, n]) s.ents).length (pairV (underE (keyL 24 [a, n]) s.ents)) ∧ Below W.heap.size W w2) := fun w1 h1 =>
    ((hS.below (h1.mono hn)).under (keyL 24 [a, n])).mono fun e w2 ⟨v, he, hO⟩ => by
      obtain ⟨a', c, rfl, _⟩ := hO.1.pairs
      exact ⟨a', c, he, hO.1, h1.trans (hO.2.2.mono h1.size)⟩
  have hc1 := hBs.cell
  have hc2 := hBa.cell
  have hc3 := hBn.cell
  have hbW := Below.refl W.heap.size W
  have hc4 : (W.alloc (.cells #[.int .i64 a, .int .i64 n] 3)).cell? ⟨Bs, 0, none⟩ = some (.pointer q) := hcB _ (bl_alloc hbW _)
  refine callsIn_of_wp Tryz.func105 rfl trivial ?_ rfl
  simp only [Tryz.ntmps105, List.size_toArray, List.length_cons, List.length_nil, Nat.reduceAdd, Nat.reduceSub, Array.replicate_succ, Array.replicate_zero, List.push_toArray, List.append_toArray, List.nil_append, List.cons_append]
  have hmo : Tryz.prog.follows .mixedOrders = true := by kernel_rfl
  have HL : Hid ((underE (keyL 24 [a, n]) s.ents).length < 1000000000000) := Nat.lt_of_le_of_lt (underE_len _ _) hlen
  have HK : Hid (∀ (i : Nat) (x : Ent), (underE (keyL 24 [a, n]) s.ents)[i]? = some x → x.1.size < 1000000000000) := fun i x hx => hkey x (by have h := List.mem_of_getElem? hx; unfold underE at h; exact (List.mem_filter.1 h).1)
  have HE : Hid (memE a n s = (underE (keyL 24 [a, n]) s.ents).filterMap (memOf s)) := rfl
  generalize memE a n s = ES at *
  generalize underE (keyL 24 [a, n]) s.ents = us at *
  generalize keyL 24 [a, n] = kt at *
  gi_wp2
  gi_cut [15, 16, 17] from 18 (fun s12 s13 s14 wc => ∃ a' c, s12 = .slice a' us.length c ∧ s13 = .int .i64 us.length ∧ s14 = .int .i64 0 ∧ Own wc 104 2 (.slice a' us.length c) us.length (pairV us) ∧ Below W.heap.size W wc)
  case first =>
    gi_region_with_o (first
      | (refine ⟨trivial, ?_⟩; gi_at_call 75; refine (callsIn_wide.2 (HT.out _ hbW)).mono ?_; rintro e w1 ⟨rfl, hb1, hcw1⟩)
      | (refine ⟨trivial, ?_⟩; gi_at_call 56; refine (callsIn_wide.2 (HU.out _ hb1)).mono ?_; rintro e w2 ⟨a', c, rfl, hO, hb2⟩))
    all_goals
      gi_wp2
      gi_meet
      case rel => exact ⟨a', c, rfl, rfl, rfl, hO, hb2⟩
  case rest =>
    obtain ⟨a', c, rfl, rfl, rfl, hO, hb2⟩ := hcut
    have hJc : J [] wc := hJ _ _ _ none h0 (grown_below hb2) (fun r e => by cases e)
    have HO := Lib.hid hO
    have hsz := hb2.size
    have hSc := hS.below (hb2.mono hn)
    have hBc : Boxed wc Bs 25 (.pointer q) := (hb2.block Bs hBs.lt).trans hBs
    clear hO HU HT hcB hBa hBn hBs hS hc1 hc2 hc3 hc4 h0 hbW ha hnn
    have hA0 : Hid (MemAt n₀ s us J wc 0 wc) := ⟨by simpa using hJc, KpR.refl _ _⟩
    gi_wp2
    gi_loopw [17] (fun iv wr => ∃ i : Nat, iv = .int .i64 i ∧ i ≤ us.length ∧ MemAt n₀ s us J wc i wr) (fun iv _ => us.length - (intOf iv).toNat)
    case atStart => exact ⟨0, rfl, by omega, hA0.out⟩
    case round =>
      obtain ⟨i, rfl, hi, hAt⟩ := hrel
      have HAt := Lib.hid hAt
      clear hAt hA0
      have hnr : n₀ ≤ wr.heap.size := Nat.le_trans (Nat.le_trans hn hsz) HAt.out.2.1.size
      by_cases hlt : i < us.length
      · obtain ⟨x, hx⟩ : ∃ x, us[i]? = some x := ⟨_, List.getElem?_eq_getElem hlt⟩
        obtain ⟨a2, c', e, hp⟩ := (HAt.out.2.own HO.out (by decide) (by decide)).pairs
        cases e
        obtain ⟨g, rfl, hp1, hp2⟩ := hp.at0 i x hx
        clear hp
        have hxk := HK.out i x hx
        have hL := HL.out
        have hba : Below wr.heap.size wr (wr.alloc (.cells #[.string x.1, .string x.2] 104)) := (Below.refl _ wr).alloc (Nat.le_refl _) _
        have HPA := parse_any x.1 hxk (wr.alloc (.cells #[.string x.1, .string x.2] 104))
        cases hpk : parseK x.1 with
        | none =>
          have HP : Hid (Calls Tryz.prog 106 #[.string x.1] (wr.alloc (.cells #[.string x.1, .string x.2] 104)) fun e w3 => e = .returned (.tuple #[.int .i64 0, .slice none 0 0, .bool false]) ∧ ∀ nq, MemAt n₀ s us J wc (i + 1) (w3.drewN nq)) := by
            refine HPA.mono fun e w3 ⟨hb, hr⟩ => ?_
            rw [hpk] at hr
            exact ⟨hr, fun nq => HAt.out.skip hJ hx (by unfold memOf; rw [hpk]) (below_drewN (hba.trans (hb.mono (by simp))) nq) hnr⟩
          clear HPA HAt
          gi_wp2_with (refine ⟨trivial, ?_⟩; gi_at_call 106; refine (callsIn_wide.2 HP.out).mono ?_; rintro e w3 ⟨rfl, hA3⟩)
          refine wpIn_region_quiet_lit rfl (by assumption) (by kernel_rfl) ?_
          repeat (gi_big_quiet_step (fail))
          refine BigFrame.wpQuietIn_skip (fun _ _ _ _ => trivial) (by kernel_rfl) ?_
          simp only [Act.put, List.setIfInBounds_toArray, List.set_cons_zero, List.set_cons_succ]
          refine BigFrame.wpQuietIn_skip (fun _ _ _ _ => trivial) (by kernel_rfl) ?_
          simp only [Act.put, List.setIfInBounds_toArray, List.set_cons_zero, List.set_cons_succ]
          repeat (gi_big_quiet_step (fail))
          refine wpQuietIn_nil ?_
          intro _ hw'
          obtain ⟨nq, rfl⟩ := hw'
          gi_wp2
          refine ⟨⟨i + 1, by go_num, by omega, hA3 nq⟩, by simp [intOf]; omega⟩
        | some y =>
          obtain ⟨t', ns⟩ := y
          by_cases h1 : ns.length = 3
          · obtain ⟨x0, x1, x2, rfl⟩ : ∃ x0 x1 x2, ns = [x0, x1, x2] := by
              match ns, h1 with
              | [x0, x1, x2], _ => exact ⟨x0, x1, x2, rfl⟩
            have hone : memOf s x = some ((x2 : Int), mP s x0 x1 x2) := by unfold memOf; rw [hpk]
            have hbd := (key_parse hpk).2
            have hx0 : (x0 : Int) < 9223372036854775808 := by have := hbd x0 (by simp); omega
            have hx1 : (x1 : Int) < 9223372036854775808 := by have := hbd x1 (by simp); omega
            have hx2 : (x2 : Int) < 9223372036854775808 := by have := hbd x2 (by simp); omega
            have hpl : ((us.take i).filterMap (memOf s)).length < 1000000000000 := by
              have h2 := filterMap_len (memOf s) (us.take i)
              have h3 : (us.take i).length ≤ us.length := by rw [List.length_take]; omega
              omega
            have hBr := HAt.out.2.box hBc (by decide) (by decide)
            have hSr := hSc.below HAt.out.2.1
            have HP : Hid (Calls Tryz.prog 106 #[.string x.1] (wr.alloc (.cells #[.string x.1, .string x.2] 104)) (MemB n₀ s us J Jx wc l Bs q i x0 x1 x2)) := by
              refine HPA.mono fun e w3 ⟨hb, hr⟩ => ?_
              rw [hpk] at hr
              obtain ⟨v, he, ho, _⟩ := hr
              obtain ⟨g2, c2, rfl, hcell⟩ := own_three (x := x0) (y := x1) (z := x2) ho
              have hb3 : Below wr.heap.size wr w3 := hba.trans (hb.mono (by simp))
              have hfacts : ∀ w', Below w3.heap.size w3 w' → Cells4 g2 Bs q x0 x1 x2 w' := fun w' hw => by
                have hb' := below_then' hb3 hw
                obtain ⟨k0, k1, k2⟩ := hcell w' hw
                refine ⟨k0, k1, k2, ?_⟩
                rw [hb'.cell (p := ⟨Bs, 0, none⟩) hBr.lt]; exact hBr.cell
              refine ⟨t', g2, c2, he, hfacts _ (Below.refl _ _), ?_⟩
              have hS4 : ReadAt w3.drew.heap.size w3.drew q s := (hSr.below ((below_drewN hb3 1).mono hnr)).up (Nat.le_trans hnr hb3.size)
              refine (mrow_any w3.drew q s x0 x1 x2 hx0 hx1 hx2 hS4).mono fun e w4 ⟨he4, hb4⟩ => ⟨he4, hfacts w4 (below_undrew hb4), ?_⟩
              have hb4' : Below wr.heap.size wr w4 := below_then' hb3 (below_undrew hb4)
              refine (hY _ ((x2 : Int), mP s x0 x1 x2) w4 (hJ _ _ _ none HAt.out.1 (grown_below hb4') (fun r e => by cases e)) hpl).mono fun e W' h => ?_
              rcases h with ⟨rfl, hJ', hK'⟩ | ⟨rfl, hJx'⟩
              · refine ⟨true, rfl, fun _ => ⟨?_, (HAt.out.2.trans (KpR.of_below hb4' hnr)).trans hK'⟩, fun h => (by cases h)⟩
                rw [filterMap_step _ _ _ _ hx, hone]
                exact hJ'
              · exact ⟨false, rfl, fun h => (by cases h), fun _ => ⟨_, hJx'⟩⟩
            clear HPA HAt hpl hone hBr hSr hSc hBc hY hbd hx0 hx1 hx2
            unfold MemB at HP
            gi_wp2_with (refine ⟨trivial, ?_⟩; gi_at_call 106; refine (callsIn_wide.2 HP.out).mono ?_; rintro e w3 ⟨tt, g2, c2, rfl, ⟨k0, k1, k2, hbs2⟩, hI⟩)
            have HI := Lib.hid hI
            clear hI HP
            have hp1' : ((3 : Nat) : Int) = 3 := rfl
            refine anyS_region (fun i => decide (i < 22)) (fun w' => Cells4 g2 Bs q x0 x1 x2 w') (by assumption) ?_
            have hS0 : Cells4 g2 Bs q x0 x1 x2 w3.drew := ⟨k0, k1, k2, hbs2⟩
            refine anyS_take (i := 0) (v := ?v0) rfl rfl (by kernel_rfl) (by kernel_rfl) (by kernel_rfl) (by kernel_rfl) (fun _ _ _ h => h) (by rfl) (fun _ => rfl) ?hy0 hS0 ?_
            case hy0 => (intro w hw; obtain ⟨h0, h1, h2, h3⟩ := hw; go_simp <;> with_reducible rfl)
            simp only [Act.put, List.getElem_toArray, List.getElem_cons_zero, List.setIfInBounds_toArray, List.set_cons_zero, List.set_cons_succ]
            refine anyS_take (i := 1) (v := ?v1) rfl rfl (by kernel_rfl) (by kernel_rfl) (by kernel_rfl) (by kernel_rfl) (fun _ _ _ h => h) (by rfl) (fun _ => rfl) ?hy1 hS0 ?_
            case hy1 => (intro w hw; obtain ⟨h0, h1, h2, h3⟩ := hw; go_simp <;> with_reducible rfl)
            simp only [Act.put, List.getElem_toArray, List.getElem_cons_zero, List.getElem_cons_succ, List.setIfInBounds_toArray, List.set_cons_zero, List.set_cons_succ]
            refine anyS_take (i := 2) (v := ?v2) rfl rfl (by kernel_rfl) (by kernel_rfl) (by kernel_rfl) (by kernel_rfl) (fun _ _ _ h => h) (by rfl) (fun _ => rfl) ?hy2 hS0 ?_
            case hy2 => (intro w hw; obtain ⟨h0, h1, h2, h3⟩ := hw; go_simp <;> with_reducible rfl)
            simp only [Act.put, List.getElem_toArray, List.getElem_cons_zero, List.getElem_cons_succ, List.setIfInBounds_toArray, List.set_cons_zero, List.set_cons_succ]
            refine anyS_take (i := 3) (v := ?v3) rfl rfl (by kernel_rfl) (by kernel_rfl) (by kernel_rfl) (by kernel_rfl) (fun _ _ _ h => h) (by rfl) (fun _ => rfl) ?hy3 hS0 ?_
            case hy3 => (intro w hw; obtain ⟨h0, h1, h2, h3⟩ := hw; go_simp <;> with_reducible rfl)
            simp only [Act.put, List.getElem_toArray, List.getElem_cons_zero, List.getElem_cons_succ, List.setIfInBounds_toArray, List.set_cons_zero, List.set_cons_succ]
            refine anyS_take (i := 4) (v := ?v4) rfl rfl (by kernel_rfl) (by kernel_rfl) (by kernel_rfl) (by kernel_rfl) (fun _ _ _ h => h) (by rfl) (fun _ => rfl) ?hy4 hS0 ?_
            case hy4 => (intro w hw; obtain ⟨h0, h1, h2, h3⟩ := hw; go_simp <;> with_reducible rfl)
            simp only [Act.put, List.getElem_toArray, List.getElem_cons_zero, List.getElem_cons_succ, List.setIfInBounds_toArray, List.set_cons_zero, List.set_cons_succ]
            refine anyS_take (i := 5) (v := ?v5) rfl rfl (by kernel_rfl) (by kernel_rfl) (by kernel_rfl) (by kernel_rfl) (fun _ _ _ h => h) (by rfl) (fun _ => rfl) ?hy5 hS0 ?_
            case hy5 => (intro w hw; obtain ⟨h0, h1, h2, h3⟩ := hw; go_simp <;> with_reducible rfl)
            simp only [Act.put, List.getElem_toArray, List.getElem_cons_zero, List.getElem_cons_succ, List.setIfInBounds_toArray, List.set_cons_zero, List.set_cons_succ]
            refine anyS_take (i := 6) (v := ?v6) rfl rfl (by kernel_rfl) (by kernel_rfl) (by kernel_rfl) (by kernel_rfl) (fun _ _ _ h => h) (by rfl) (fun _ => rfl) ?hy6 hS0 ?_
            case hy6 => (intro w hw; obtain ⟨h0, h1, h2, h3⟩ := hw; go_simp <;> with_reducible rfl)
            simp only [Act.put, List.getElem_toArray, List.getElem_cons_zero, List.getElem_cons_succ, List.setIfInBounds_toArray, List.set_cons_zero, List.set_cons_succ]
            refine anyS_take (i := 7) (v := ?v7) rfl rfl (by kernel_rfl) (by kernel_rfl) (by kernel_rfl) (by kernel_rfl) (fun _ _ _ h => h) (by rfl) (fun _ => rfl) ?hy7 hS0 ?_
            case hy7 => (intro w hw; obtain ⟨h0, h1, h2, h3⟩ := hw; go_simp <;> with_reducible rfl)
            simp only [Act.put, List.getElem_toArray, List.getElem_cons_zero, List.getElem_cons_succ, List.setIfInBounds_toArray, List.set_cons_zero, List.set_cons_succ]
            refine anyS_take (i := 8) (v := ?v8) rfl rfl (by kernel_rfl) (by kernel_rfl) (by kernel_rfl) (by kernel_rfl) (fun _ _ _ h => h) (by rfl) (fun _ => rfl) ?hy8 hS0 ?_
            case hy8 => (intro w hw; obtain ⟨h0, h1, h2, h3⟩ := hw; go_simp <;> with_reducible rfl)
            simp only [Act.put, List.getElem_toArray, List.getElem_cons_zero, List.getElem_cons_succ, List.setIfInBounds_toArray, List.set_cons_zero, List.set_cons_succ]
            refine anyS_take (i := 9) (v := ?v9) rfl rfl (by kernel_rfl) (by kernel_rfl) (by kernel_rfl) (by kernel_rfl) (fun _ _ _ h => h) (by rfl) (fun _ => rfl) ?hy9 hS0 ?_
            case hy9 => (intro w hw; obtain ⟨h0, h1, h2, h3⟩ := hw; go_simp <;> with_reducible rfl)
            simp only [Act.put, List.getElem_toArray, List.getElem_cons_zero, List.getElem_cons_succ, List.setIfInBounds_toArray, List.set_cons_zero, List.set_cons_succ]
            refine anyS_take (i := 10) (v := ?v10) rfl rfl (by kernel_rfl) (by kernel_rfl) (by kernel_rfl) (by kernel_rfl) (fun _ _ _ h => h) (by rfl) (fun _ => rfl) ?hy10 hS0 ?_
            case hy10 => (intro w hw; obtain ⟨h0, h1, h2, h3⟩ := hw; go_simp <;> with_reducible rfl)
            simp only [Act.put, List.getElem_toArray, List.getElem_cons_zero, List.getElem_cons_succ, List.setIfInBounds_toArray, List.set_cons_zero, List.set_cons_succ]
            refine anyS_take (i := 11) (v := ?v11) rfl rfl (by kernel_rfl) (by kernel_rfl) (by kernel_rfl) (by kernel_rfl) (fun _ _ _ h => h) (by rfl) (fun _ => rfl) ?hy11 hS0 ?_
            case hy11 => (intro w hw; obtain ⟨h0, h1, h2, h3⟩ := hw; go_simp <;> with_reducible rfl)
            simp only [Act.put, List.getElem_toArray, List.getElem_cons_zero, List.getElem_cons_succ, List.setIfInBounds_toArray, List.set_cons_zero, List.set_cons_succ]
            refine anyS_take (i := 12) (v := ?v12) rfl rfl (by kernel_rfl) (by kernel_rfl) (by kernel_rfl) (by kernel_rfl) (fun _ _ _ h => h) (by rfl) (fun _ => rfl) ?hy12 hS0 ?_
            case hy12 => (intro w hw; obtain ⟨h0, h1, h2, h3⟩ := hw; go_simp <;> with_reducible rfl)
            simp only [Act.put, List.getElem_toArray, List.getElem_cons_zero, List.getElem_cons_succ, List.setIfInBounds_toArray, List.set_cons_zero, List.set_cons_succ]
            refine anyS_take (i := 13) (v := ?v13) rfl rfl (by kernel_rfl) (by kernel_rfl) (by kernel_rfl) (by kernel_rfl) (fun _ _ _ h => h) (by rfl) (fun _ => rfl) ?hy13 hS0 ?_
            case hy13 => (intro w hw; obtain ⟨h0, h1, h2, h3⟩ := hw; go_simp <;> with_reducible rfl)
            simp only [Act.put, List.getElem_toArray, List.getElem_cons_zero, List.getElem_cons_succ, List.setIfInBounds_toArray, List.set_cons_zero, List.set_cons_succ]
            refine anyS_take (i := 14) (v := ?v14) rfl rfl (by kernel_rfl) (by kernel_rfl) (by kernel_rfl) (by kernel_rfl) (fun _ _ _ h => h) (by rfl) (fun _ => rfl) ?hy14 hS0 ?_
            case hy14 => (intro w hw; obtain ⟨h0, h1, h2, h3⟩ := hw; go_simp <;> with_reducible rfl)
            simp only [Act.put, List.getElem_toArray, List.getElem_cons_zero, List.getElem_cons_succ, List.setIfInBounds_toArray, List.set_cons_zero, List.set_cons_succ]
            refine anyS_take (i := 15) (v := ?v15) rfl rfl (by kernel_rfl) (by kernel_rfl) (by kernel_rfl) (by kernel_rfl) (fun _ _ _ h => h) (by rfl) (fun _ => rfl) ?hy15 hS0 ?_
            case hy15 => (intro w hw; obtain ⟨h0, h1, h2, h3⟩ := hw; go_simp <;> with_reducible rfl)
            simp only [Act.put, List.getElem_toArray, List.getElem_cons_zero, List.getElem_cons_succ, List.setIfInBounds_toArray, List.set_cons_zero, List.set_cons_succ]
            refine anyS_take (i := 16) (v := ?v16) rfl rfl (by kernel_rfl) (by kernel_rfl) (by kernel_rfl) (by kernel_rfl) (fun _ _ _ h => h) (by rfl) (fun _ => rfl) ?hy16 hS0 ?_
            case hy16 => (intro w hw; obtain ⟨h0, h1, h2, h3⟩ := hw; go_simp <;> with_reducible rfl)
            simp only [Act.put, List.getElem_toArray, List.getElem_cons_zero, List.getElem_cons_succ, List.setIfInBounds_toArray, List.set_cons_zero, List.set_cons_succ]
            refine anyS_take (i := 17) (v := ?v17) rfl rfl (by kernel_rfl) (by kernel_rfl) (by kernel_rfl) (by kernel_rfl) (fun _ _ _ h => h) (by rfl) (fun _ => rfl) ?hy17 hS0 ?_
            case hy17 => (intro w hw; obtain ⟨h0, h1, h2, h3⟩ := hw; go_simp <;> with_reducible rfl)
            simp only [Act.put, List.getElem_toArray, List.getElem_cons_zero, List.getElem_cons_succ, List.setIfInBounds_toArray, List.set_cons_zero, List.set_cons_succ]
            refine anyS_take (i := 18) (v := ?v18) rfl rfl (by kernel_rfl) (by kernel_rfl) (by kernel_rfl) (by kernel_rfl) (fun _ _ _ h => h) (by rfl) (fun _ => rfl) ?hy18 hS0 ?_
            case hy18 => (intro w hw; obtain ⟨h0, h1, h2, h3⟩ := hw; go_simp <;> with_reducible rfl)
            simp only [Act.put, List.getElem_toArray, List.getElem_cons_zero, List.getElem_cons_succ, List.setIfInBounds_toArray, List.set_cons_zero, List.set_cons_succ]
            refine anyS_take (i := 19) (v := ?v19) rfl rfl (by kernel_rfl) (by kernel_rfl) (by kernel_rfl) (by kernel_rfl) (fun _ _ _ h => h) (by rfl) (fun _ => rfl) ?hy19 hS0 ?_
            case hy19 => (intro w hw; obtain ⟨h0, h1, h2, h3⟩ := hw; go_simp <;> with_reducible rfl)
            simp only [Act.put, List.getElem_toArray, List.getElem_cons_zero, List.getElem_cons_succ, List.setIfInBounds_toArray, List.set_cons_zero, List.set_cons_succ]
            refine anyS_take (i := 20) (v := ?v20) rfl rfl (by kernel_rfl) (by kernel_rfl) (by kernel_rfl) (by kernel_rfl) (fun _ _ _ h => h) (by rfl) (fun _ => rfl) ?hy20 hS0 ?_
            case hy20 => (intro w hw; obtain ⟨h0, h1, h2, h3⟩ := hw; go_simp <;> with_reducible rfl)
            simp only [Act.put, List.getElem_toArray, List.getElem_cons_zero, List.getElem_cons_succ, List.setIfInBounds_toArray, List.set_cons_zero, List.set_cons_succ]
            refine anyS_one (i := 21) rfl (by kernel_rfl) (by rfl) fun K hK => ?_
            go_simp
            gi_wp2_with (refine ⟨trivial, ?_⟩; gi_at_call 42; refine (callsIn_wide.2 HI.out).mono ?_; rintro e w4 ⟨rfl, hS4, fn, tmps, assign, body, hy, hR⟩)
            refine hK _ _ (fun _ => hS4) ?_
            clear hK K
            refine anyS_one (i := 22) rfl (by kernel_rfl) (by rfl) fun K hK => ?_
            go_simp
            gi_wp2_with (refine hR.mono ?_; rintro e W3 ⟨r, rfl, hT, hF⟩)
            refine hK _ _ (fun h => by cases h) ?_
            clear hK K
            refine anyS_one (i := 23) rfl (by kernel_rfl) (by rfl) fun K hK => ?_
            go_simp
            refine hK _ _ (fun h => by cases h) ?_
            clear hK K
            refine anyS_one (i := 24) rfl (by kernel_rfl) (by rfl) fun K hK => ?_
            go_simp
            refine hK _ _ (fun h => by cases h) ?_
            clear hK K
            refine anyS_done (by kernel_rfl) ?_ _
            all_goals
              cases r with
              | true =>
                have hA3 := hT rfl
                clear hT hF
                gi_wp2
                refine ⟨⟨i + 1, by go_num, by omega, hA3⟩, by simp [intOf]; omega⟩
              | false =>
                obtain ⟨pre, hA3⟩ := hF rfl
                clear hT hF
                gi_wp2
                refine bodyPost_ret (results_none rfl _ _ _) rfl ?_
                exact ⟨⟨_, rfl⟩, .inr ⟨_, trivial, hA3⟩⟩
          · have hno : memOf s x = none := by
              unfold memOf
              rw [hpk]
              match ns, h1 with
              | [], _ => rfl
              | [_], _ => rfl
              | [_, _], _ => rfl
              | [_, _, _], h => exact absurd rfl h
              | _ :: _ :: _ :: _ :: _, _ => rfl
            have hd1 : ((ns.length : Int) == 3) = false := by rw [beq_eq_false_iff_ne]; omega
            have HP : Hid (Calls Tryz.prog 106 #[.string x.1] (wr.alloc (.cells #[.string x.1, .string x.2] 104)) fun e w3 => (∃ a c, e = .returned (.tuple #[.int .i64 t', .slice a ns.length c, .bool true])) ∧ ∀ nq, MemAt n₀ s us J wc (i + 1) (w3.drewN nq)) := by
              refine HPA.mono fun e w3 ⟨hb, hr⟩ => ?_
              rw [hpk] at hr
              obtain ⟨v, he, ho, _⟩ := hr
              obtain ⟨a, c, rfl, _⟩ := ho.form
              exact ⟨⟨a, c, he⟩, fun nq => HAt.out.skip hJ hx hno (below_drewN (hba.trans (hb.mono (by simp))) nq) hnr⟩
            clear HPA HAt hno h1
            gi_wp2_with (refine ⟨trivial, ?_⟩; gi_at_call 106; refine (callsIn_wide.2 HP.out).mono ?_; rintro e w3 ⟨⟨av, cv, rfl⟩, hA3⟩)
            refine wpIn_region_quiet_lit rfl (by assumption) (by kernel_rfl) ?_
            repeat (gi_big_quiet_step (fail))
            refine BigFrame.wpQuietIn_skip (fun _ _ _ _ => trivial) (by kernel_rfl) ?_
            simp only [Act.put, List.setIfInBounds_toArray, List.set_cons_zero, List.set_cons_succ]
            refine BigFrame.wpQuietIn_skip (fun _ _ _ _ => trivial) (by kernel_rfl) ?_
            simp only [Act.put, List.setIfInBounds_toArray, List.set_cons_zero, List.set_cons_succ]
            repeat (gi_big_quiet_step (fail))
            refine wpQuietIn_nil ?_
            intro _ hw'
            obtain ⟨nq, rfl⟩ := hw'
            gi_wp2
            refine ⟨⟨i + 1, by go_num, by omega, hA3 nq⟩, by simp [intOf]; omega⟩
      · obtain rfl : i = us.length := by omega
        have hend := HAt.out.1
        rw [List.take_length, ← HE.out] at hend
        clear hi
        gi_wp2
        go_end0
        exact ⟨⟨_, rfl⟩, .inl ⟨_, rfl, hend⟩⟩
end Go.Proofs.YtngaogfhijaaaaaGreat
