/- What is proved here: the reference's Operators and Stakers: the same numbers as the program's. Their conditions: sizes. -/
import Derived.Test.YtbljaikifgpflaaRUnder
import Derived.Test.YtbljaikifgpflaaEachC
import Derived.Test.YtbljaikifgpflaaRRoster
namespace Go.Proofs.Ytbljaikifgpflaa
open Go.RowKit

/-- A key's one number. -/
def numOf (k : ByteArray) : Option Nat := match parseK k with
  | some (_, [n]) => some n
  | _ => none

theorem eachOf_num (s : St) (x : Ent) : eachOf s x = (numOf x.1).map fun (n : Nat) => ((n : Int), (s.int x.1 : Int)) := by
  unfold eachOf numOf
  split <;> rename_i h <;> simp [h]

theorem parse_one {w w' : World} {k : ByteArray} {e : Ending} (h : RetParse w (parseK k) e w') (n : Nat) (hn : numOf k = some n) : ∃ (t : Int) (g c : Nat), e = .returned (.tuple #[.int .i64 t, .slice (some ⟨g, 0, none⟩) 1 c, .bool true]) ∧ ∀ w2, Below w'.heap.size w' w2 → w2.cell? ⟨g, 0, none⟩ = some (.int .i64 n) := by
  unfold numOf at hn
  cases hp : parseK k with
  | none => rw [hp] at hn; cases hn
  | some y =>
    obtain ⟨t, ns⟩ := y
    rw [hp] at hn h
    match ns, hn with
    | [m], hn =>
      cases hn
      obtain ⟨_, v, he, ho, _⟩ := h
      obtain ⟨g, c, rfl, hc⟩ := own_one (n := n) ho
      exact ⟨t, g, c, he, hc⟩

theorem parse_not {w w' : World} {k : ByteArray} {e : Ending} (h : RetParse w (parseK k) e w') (hn : numOf k = none) : ∃ (t : Int) (a : Option Addr) (m c : Nat) (ok : Bool), e = .returned (.tuple #[.int .i64 t, .slice a m c, .bool ok]) ∧ ((m : Int) == 1) = false := by
  unfold numOf at hn
  cases hp : parseK k with
  | none =>
    rw [hp] at h
    obtain ⟨_, he⟩ := h
    exact ⟨0, none, 0, 0, false, he, by decide⟩
  | some y =>
    obtain ⟨t, ns⟩ := y
    rw [hp] at hn h
    obtain ⟨_, v, he, ho, _⟩ := h
    obtain ⟨a, c, rfl, _⟩ := ho.form
    refine ⟨t, a, ns.length, c, true, he, ?_⟩
    rw [beq_eq_false_iff_ne]
    intro e1
    have h1 : ns.length = 1 := by omega
    obtain ⟨m, rfl⟩ := List.length_eq_one_iff.1 h1
    cases hn

/-- Ints in the making. -/
def IntsOut (w2 : World) (f : List Int) (v : Value) (wr : World) : Prop := Own wr 3 1 v f.length (f.map fun n => Value.int .i64 n) ∧ (∀ g, v.ownBlock = some g → w2.heap.size ≤ g) ∧ Below w2.heap.size w2 wr

theorem IntsOut.below {w2 wr w' : World} {f : List Int} {v : Value} (h : IntsOut w2 f v wr) (hb : Below wr.heap.size wr w') : IntsOut w2 f v w' :=
  ⟨h.1.frame fun k hk => hb.block k (h.1.lt k hk), h.2.1, h.2.2.trans (hb.mono h.2.2.size)⟩

theorem IntsOut.push {w2 w3 w' : World} {f : List Int} {v v' : Value} (h : IntsOut w2 f v w3) {o : Obj} {n : Int} (hA : Appended (w3.alloc o) 3 1 v f.length 1 (f.map fun n => Value.int .i64 n) [.int .i64 n] v' w') : IntsOut w2 (f ++ [n]) v' w' := by
  have h0 := h.below ((Below.refl _ w3).alloc (Nat.le_refl _) o)
  refine ⟨by rw [List.map_append, List.length_append]; exact hA.own, fun g hg => ?_, h0.2.2.grown hA.grown h0.2.2.size h0.2.1⟩
  rcases hA.block g hg with h1 | h1
  · exact h0.2.1 g h1
  · exact Nat.le_trans h0.2.2.size h1

theorem IntsOut.form {w2 wr : World} {f : List Int} {v : Value} (h : IntsOut w2 f v wr) : ∃ a c, v = .slice a f.length c := by
  obtain ⟨a, c, e, _⟩ := h.1.form
  exact ⟨a, c, e⟩

theorem ops_step (s : St) (us : List Ent) (i : Nat) (x : Ent) (h : us[i]? = some x) : ((us.take (i + 1)).filterMap (eachOf s)).map (·.1) = ((us.take i).filterMap (eachOf s)).map (·.1) ++ ((numOf x.1).map fun (n : Nat) => (n : Int)).toList := by
  rw [filterMap_step _ _ _ _ h, List.map_append, eachOf_num]
  cases numOf x.1 <;> rfl

set_option maxRecDepth 100000 in
set_option maxHeartbeats 4000000 in
theorem roperators_any (w : World) (b : Nat) (s : St) (L : List Nat) (h : RRep w b s L) (hlen : s.ents.length < 1000000000000) (hkey : ∀ x ∈ s.ents, x.1.size < 1000000000000) :
    Calls Try.prog 20 #[.pointer (some ⟨b, 0, none⟩)] w fun e W' => ∃ v, e = .returned v ∧ Own W' 3 1 v (eachE 8 s).length ((eachE 8 s).map fun x => Value.int .i64 x.1) ∧ Below w.heap.size w W' := by
  have HK := Lib.hid (rkey_new0 8 (by decide) (by decide) w)
  have HU : Hid (∀ w1, Below w.heap.size w w1 → Calls Try.prog 35 #[.pointer (some ⟨b, 0, none⟩), .string (keyL 8 [])] w1 fun e w2 => ∃ a c, e = .returned (.slice a (underE (keyL 8 []) s.ents).length c) ∧ PairsAt w2 a (underE (keyL 8 []) s.ents) ∧ Below w.heap.size w w2) := fun w1 h1 =>
    (runder_any w1 b s L (keyL 8 []) (h.below h1) hlen).mono fun e w2 ⟨v, he, hO⟩ => by
      obtain ⟨a, c, rfl, hp⟩ := hO.1.pairs
      exact ⟨a, c, he, hp, h1.trans (hO.2.2.mono h1.size)⟩
  have HE : Hid (∀ w2 v wr, Below w.heap.size w w2 → IntsOut w2 (((underE (keyL 8 []) s.ents)).filterMap (eachOf s) |>.map (·.1)) v wr → ∃ v', Ending.returned v = .returned v' ∧ Own wr 3 1 v' (eachE 8 s).length ((eachE 8 s).map fun x => Value.int .i64 x.1) ∧ Below w.heap.size w wr) := fun w2 v wr hb hO => by
    refine ⟨v, rfl, ?_, hb.trans (hO.2.2.mono hb.size)⟩
    have := hO.1
    rw [List.length_map, List.map_map] at this
    exact this
  have HL : Hid ((underE (keyL 8 []) s.ents).length < 1000000000000) := Nat.lt_of_le_of_lt (underE_len _ _) hlen
  have HKS : Hid (∀ (i : Nat) (x : Ent), (underE (keyL 8 []) s.ents)[i]? = some x → x.1.size < 1000000000000) := fun i x hx => hkey x (by have h := List.mem_of_getElem? hx; unfold underE at h; exact (List.mem_filter.1 h).1)
  have HST : Hid (∀ (i : Nat) (x : Ent), (underE (keyL 8 []) s.ents)[i]? = some x → (((underE (keyL 8 []) s.ents).take (i + 1)).filterMap (eachOf s)).map (·.1) = (((underE (keyL 8 []) s.ents).take i).filterMap (eachOf s)).map (·.1) ++ ((numOf x.1).map fun (n : Nat) => (n : Int)).toList) := fun i x hx => ops_step s _ i x hx
  generalize underE (keyL 8 []) s.ents = us at *
  clear h hlen hkey
  generalize keyL 8 [] = kt at *
  go_enter Try.func20, Try.ntmps20
  go_wp2_with fail
  refine Calls.mono HK.out ?_
  rintro e w1 ⟨rfl, hb1⟩
  go_wp2_with fail
  refine Calls.mono (HU.out w1 hb1) ?_
  rintro e w2 ⟨a, c, rfl, hp, hb2⟩
  have HP := Lib.hid hp
  have HG : Hid (∀ k, k < us.length → ∃ x, us[k]? = some x) := fun k hk => ⟨_, List.getElem?_eq_getElem hk⟩
  have HFL : Hid (∀ k, ((((us.take k).filterMap (eachOf s)).map (·.1)).length ≤ k)) := fun k => by
    rw [List.length_map]
    refine Nat.le_trans (filterMap_len _ _) ?_
    rw [List.length_take]; exact Nat.min_le_left _ _
  have H0 : Hid (IntsOut w2 (((us.take 0).filterMap (eachOf s)).map (·.1)) (.slice none 0 0) w2) := ⟨Own.nil _ _ _, fun g hg => by simp [Value.ownBlock] at hg, Below.refl _ _⟩
  have HEE : Hid (∀ v wr, IntsOut w2 ((us.filterMap (eachOf s)).map (·.1)) v wr → ∃ v', Ending.returned v = .returned v' ∧ Own wr 3 1 v' (eachE 8 s).length ((eachE 8 s).map fun x => Value.int .i64 x.1) ∧ Below w.heap.size w wr) := fun v wr hO => HE.out w2 v wr hb2 hO
  clear hp hb1 HU HK HE hb2
  go_wp2_with fail
  go_loopw [3, 13] (fun v iv wr => ∃ k : Nat, iv = .int .i64 k ∧ k ≤ us.length ∧ IntsOut w2 (((us.take k).filterMap (eachOf s)).map (·.1)) v wr) (fun _ iv _ => us.length - (intOf iv).toNat)
  case atStart => exact ⟨0, rfl, by omega, H0.out⟩
  case round =>
    obtain ⟨k, rfl, hk, hR⟩ := hrel
    have HR := Lib.hid hR
    clear hR H0
    have hL := HL.out
    by_cases hlt : k < us.length
    · obtain ⟨x, hx⟩ := HG.out k hlt
      obtain ⟨g, rfl, q1, q2⟩ := HP.out.at0 k x hx
      have c1 : wr.cell? ⟨g, k * 2, none⟩ = some (.string x.1) := by rw [HR.out.2.2.cell (p := ⟨g, k * 2, none⟩) (World.block_lt_of_cell? w2 _ q1)]; exact q1
      have c2 : wr.cell? ⟨g, k * 2 + 1, none⟩ = some (.string x.2) := by rw [HR.out.2.2.cell (p := ⟨g, k * 2 + 1, none⟩) (World.block_lt_of_cell? w2 _ q2)]; exact q2
      have hba : Below wr.heap.size wr (wr.alloc (.cells #[.string x.1, .string x.2] 70)) := (Below.refl _ wr).alloc (Nat.le_refl _) _
      have hPA := rparse_any x.1 (HKS.out k x hx) (wr.alloc (.cells #[.string x.1, .string x.2] 70))
      have hst := HST.out k x hx
      have hfl := HFL.out k
      clear q1 q2
      cases hn : numOf x.1 with
      | none =>
        rw [hn] at hst
        simp only [Option.map_none, Option.toList_none, List.append_nil] at hst
        have HPA : Hid (Calls Try.prog 36 #[.string x.1] (wr.alloc (.cells #[.string x.1, .string x.2] 70)) fun e w3 => (∃ (t : Int) (a : Option Addr) (m c : Nat) (ok : Bool), e = .returned (.tuple #[.int .i64 t, .slice a m c, .bool ok]) ∧ ((m : Int) == 1) = false) ∧ IntsOut w2 (((us.take (k + 1)).filterMap (eachOf s)).map (·.1)) u3 w3) :=
          hPA.mono fun e w3 hr => ⟨parse_not hr hn, by rw [hst]; exact HR.out.below (hba.trans (hr.1.mono (by simp)))⟩
        clear hPA hst hn hx HR hba
        go_wp2_with fail
        refine Calls.mono HPA.out ?_
        rintro e w3 ⟨⟨t, a3, m3, c3, ok, rfl, hm3⟩, hR3⟩
        have HR3 := Lib.hid hR3
        clear hR3 HPA
        go_wp2_with fail
        go_roundw
        case rel => exact ⟨k + 1, by go_num, by omega, HR3.out⟩
        case measure => simp [intOf]; omega
      | some n =>
        rw [hn] at hst
        simp only [Option.map_some, Option.toList_some] at hst
        have HPA : Hid (Calls Try.prog 36 #[.string x.1] (wr.alloc (.cells #[.string x.1, .string x.2] 70)) fun e w3 => (∃ (t : Int) (g c : Nat), e = .returned (.tuple #[.int .i64 t, .slice (some ⟨g, 0, none⟩) 1 c, .bool true]) ∧ w3.cell? ⟨g, 0, none⟩ = some (.int .i64 n)) ∧ IntsOut w2 (((us.take k).filterMap (eachOf s)).map (·.1)) u3 w3) :=
          hPA.mono fun e w3 hr => ⟨by obtain ⟨t, g, c, he, hc⟩ := parse_one hr n hn; exact ⟨t, g, c, he, hc _ (Below.refl _ _)⟩, HR.out.below (hba.trans (hr.1.mono (by simp)))⟩
        have HST2 := Lib.hid hst
        have hform := HR.out.form
        clear hPA hst hn hx HR hba
        generalize ((us.take k).filterMap (eachOf s)).map (·.1) = fs at *
        obtain ⟨m, hm⟩ : ∃ m, fs.length = m := ⟨_, rfl⟩
        have HM := Lib.hid hm
        rw [hm] at hform hfl
        clear hm
        obtain ⟨av, cv, hv⟩ := hform
        subst hv
        go_wp2_with fail
        refine Calls.mono HPA.out ?_
        rintro e w3 ⟨⟨t, g3, c3, rfl, hg3⟩, hR3⟩
        have HR3 := Lib.hid hR3
        have HPUSH : Hid (∀ o v' w', Appended (w3.alloc o) 3 1 (.slice av m cv) m 1 (fs.map fun n => Value.int .i64 n) [.int .i64 n] v' w' → IntsOut w2 (((us.take (k + 1)).filterMap (eachOf s)).map (·.1)) v' w') := fun o v' w' hA => by
          rw [HST2.out]; exact HR3.out.push (by rw [HM.out]; exact hA)
        have HOO : Hid (∀ o, Own (w3.alloc o) 3 1 (.slice av m cv) m (fs.map fun n => Value.int .i64 n)) := fun o => by
          have := (HR3.out.below ((Below.refl _ w3).alloc (Nat.le_refl _) o)).1
          rw [HM.out] at this; exact this
        clear hR3 HPA HST2 HR3 HM
        generalize (fs.map fun n => Value.int .i64 n) = xs at *
        go_wp2_with (at_builtin; refine wpList_append_Own rfl _ _ 34 34 rfl intT intT _ m xs rfl (HOO.out _) _ 1 _ [.int .i64 n] rfl rfl (news_one _ _ _) (by intro u hu; rw [List.mem_singleton.1 hu]; rfl) (by unfold maxLen; omega) (by omega) ?_)
        intro v' w' hA
        have HR2 := Lib.hid (HPUSH.out _ _ _ hA)
        clear hA
        go_wp2_with fail
        go_roundw
        case rel => exact ⟨k + 1, by go_num, by omega, HR2.out⟩
        case measure => simp [intOf]; omega
    · obtain rfl : k = us.length := by omega
      have HE2 := HR.out
      rw [List.take_length] at HE2
      have HE3 := Lib.hid (HEE.out _ _ HE2)
      clear HE2
      go_wp2_with fail
      go_ret
      exact HE3.out
end Go.Proofs.Ytbljaikifgpflaa
