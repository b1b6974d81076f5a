/- What is proved here: the walk of MemberTails. Its condition: the acts' accounts are ints of 64 bits, the block one of 16. -/
import Derived.Test.YtngaogfhijaaaaaGreatMemT
namespace Go.Proofs.YtngaogfhijaaaaaGreat
open Go.RowKit

/-- Where the law's loop stands. -/
def TActsAt (w : World) (b m k : Nat) (wr : World) : Prop := ∃ s : St, s.Fit (26 + 2 * k) ∧ MGood s ∧ MInv s ∧ TwoX w b m s s [] wr

/-- A round's calls. -/
def TRound (w : World) (b m k bx : Nat) (bl k0 x y z u : Int) (inn : Bool) (ub : Int) (ul sl : Bool) (ml : List Int) (w0 : World) : Prop :=
  Calls Tryz.prog 9 #[.pointer (some ⟨b, 0, none⟩), .pointer (some ⟨m, 0, none⟩), .agg #[.int .i64 k0, .int .i64 x, .int .i64 y, .int .i64 z, .int .i64 u]] w0 fun e w1 => e = .returned (.bool true) ∧ Act5 bx k0 x y z u w1 ∧
  Calls Tryz.prog 10 #[.pointer (some ⟨b, 0, none⟩), .int .i64 9, .int .i64 x, .int .i64 y] w1 fun e w2 => e = .returned (.tuple #[.int .i64 ub, .bool ul]) ∧ Act5 bx k0 x y z u w2 ∧
  Calls Tryz.prog 11 #[.pointer (some ⟨b, 0, none⟩), .int .i64 9, .int .i64 x, .int .i64 y] w2 fun e w3 => e = .returned (.bool inn) ∧ Act5 bx k0 x y z u w3 ∧
  Calls Tryz.prog 12 #[.pointer (some ⟨b, 0, none⟩), .int .i64 9, .int .i64 x, .int .i64 y, .int .i64 bl] w3 fun e w4 => e = .returned (.bool sl) ∧ Act5 bx k0 x y z u w4 ∧
  Calls Tryz.prog 13 #[.pointer (some ⟨b, 0, none⟩), .int .i64 9, .int .i64 x] w4 fun e w5 => ∃ a6 c6, e = .returned (.slice a6 ml.length c6) ∧ IntsLie w5 a6 ml ∧ Act5 bx k0 x y z u w5 ∧ TActsAt w b m (k + 1) w5 ∧
    (sl = true → inn = false → Calls Tryz.prog 14 #[.pointer (some ⟨b, 0, none⟩), .int .i64 9, .int .i64 x, .int .i64 y, .int .i64 bl] w5 fun e w6 => ∃ r : Int, e = .returned (.int .i64 r) ∧ (r == 0) = false ∧ TActsAt w b m (k + 1) w6)

theorem tround {w wr : World} {b m k : Nat} (h : TActsAt w b m k wr) (hk : k < 1000) (bl k0 x y z u : Int) (hx : x < 9223372036854775808) (hy : y < 9223372036854775808) :
    ∃ inn ub ul ml, (inn && ul) = false ∧ (y ∈ ml ↔ inn = true) ∧ ml.length < 1000000000000 ∧ TRound w b m k wr.heap.size bl k0 x y z u inn ub ul (inn || (ul && decide (bl ≤ ub))) ml (wr.alloc (.cells #[.int .i64 k0, .int .i64 x, .int .i64 y, .int .i64 z, .int .i64 u] 30)) := by
  obtain ⟨s, hf, hg, hi, hT⟩ := h
  have hB := hT.box (.cells #[.int .i64 k0, .int .i64 x, .int .i64 y, .int .i64 z, .int .i64 u] 30)
  have f1 := mAct_fit hf k0 x y z u
  have g1 := hg.act k0 x y z u
  have i1 := hi.act hg k0 x y z u hx hy
  have hm1 : 26 + 2 * k + 2 < 10000000000 := by omega
  have hz1 : (mAct s k0 x y z u).2.size < 1000000000000 := Nat.lt_of_le_of_lt f1.size (by omega)
  have hl1 : (mAct s k0 x y z u).2.ents.length < 1000000000000 := by unfold St.size at hz1; omega
  have c5 : ∀ {w' : World} {s' : St}, TwoX w b m s' s' ((wr.heap.size, .cells #[.int .i64 k0, .int .i64 x, .int .i64 y, .int .i64 z, .int .i64 u] 30) :: []) w' → Act5 wr.heap.size k0 x y z u w' := fun h => ⟨h.top 0 rfl, h.top 1 rfl, h.top 2 rfl, h.top 3 rfl, h.top 4 rfl⟩
  have hact := act27_any hB hf (by omega) hg.2.1 k0 x y z u hx hy
  generalize hs1 : (mAct s k0 x y z u).2 = s1 at *
  have hln : (memL 9 x s1).length < 1000000000000 := by
    unfold memL
    split
    · exact Nat.lt_of_le_of_lt (pickIn_len _) (Nat.lt_of_le_of_lt (filterMap_len _ _) (Nat.lt_of_le_of_lt (underE_len _ _) hl1))
    · decide
  refine ⟨mIn s1 9 x y, (mUntil s1 9 x y).1, (mUntil s1 9 x y).2, memL 9 x s1, in_left, mem_iff g1 i1 hx hy, hln, ?_⟩
  refine hact.mono fun e w1 ⟨he, h1⟩ => ⟨he, c5 h1, ?_⟩
  obtain ⟨L1, hS1⟩ := h1.two.srep
  refine (h1.still (mUntil_any w1 _ s1 9 x y (by decide) hx hy (ReadAt.made hS1 f1 (by omega)))).mono fun e w2 ⟨he, h2⟩ => ⟨he, c5 h2, ?_⟩
  obtain ⟨L2, hS2⟩ := h2.two.srep
  refine (h2.still (mIn_any w2 _ s1 9 x y (by decide) hx hy (ReadAt.made hS2 f1 (by omega)))).mono fun e w3 ⟨he, h3⟩ => ⟨he, c5 h3, ?_⟩
  obtain ⟨L3, hS3⟩ := h3.two.srep
  refine (h3.still (mSlash_any w3 _ s1 9 x y bl (by decide) hx hy (ReadAt.made hS3 f1 (by omega)))).mono fun e w4 ⟨he, h4⟩ => ⟨he, c5 h4, ?_⟩
  obtain ⟨L4, hS4⟩ := h4.two.srep
  refine (members_any w4 b s1 L4 _ 9 x (by decide) hx hS4 f1 hm1 (keys_short25 g1.2.2)).mono fun e w5 ⟨v5, he, hr5, hb5⟩ => ?_
  obtain ⟨a6, c6, rfl, hn6⟩ := (row_own hr5).nums
  have h5 := h4.below hb5
  refine ⟨a6, c6, he, hn6, c5 h5, ⟨s1, f1.mono (by omega), g1, i1, h5.drop⟩, fun hsl hin => ?_⟩
  obtain ⟨hj2, hj1⟩ := join_not (b := bl) hsl hin
  refine (h5.prog fun L hS => mJoin_any w5 b s1 L _ 9 x y bl (by decide) hx hy hS f1 hm1).mono fun e w6 ⟨he, h6⟩ => ⟨_, he, beq_eq_false_iff_ne.2 hj1, s1, f1.mono (by omega), g1, i1, ?_⟩
  rw [hj2] at h6
  exact h6.drop

set_option maxRecDepth 100000 in
set_option maxHeartbeats 32000000 in
theorem mtails_walk (w : World) (a : Option Addr) (c : Nat) (l : List (Int × Int × Int × Int × Int)) (bl : Int) (hbl0 : 0 ≤ bl) (hbl1 : bl < 65536) (h : Acts5In w a l) : Calls Tryz.prog 3 #[.slice a l.length c, .int .u16 bl] w fun e w' => e = .returned (.bool true) ∧ Below w.heap.size w w' := by
  by_cases h150 : 80 < l.length
  · have HL := Lib.hid (lives27 w)
    have hd : decide ((80 : Int) < (l.length : Int)) = true := decide_eq_true (by omega)
    clear h
    generalize l.length = n at *
    go_enter Tryz.func3, Tryz.ntmps3
    go_wp2_with (go_at_call 7; refine HL.out.mono ?_; rintro e w1 ⟨rfl, h1⟩)
    go_ret
    exact ⟨rfl, h1⟩
  · have HN := Lib.hid (world27_any w)
    have hd : decide ((80 : Int) < (l.length : Int)) = false := decide_eq_false (by omega)
    have HC : Hid (∀ wr k x, Below w.heap.size w wr → l[k]? = some x → At5 a k x wr) := fun wr k x hb hk => h.at5 hb hk
    have HLT : Hid (∀ (k : Nat) (x : Int × Int × Int × Int × Int), l[k]? = some x → x.2.1 < 9223372036854775808 ∧ x.2.2.1 < 9223372036854775808) := fun k x hk => h.lt x (List.mem_of_getElem? hk)
    have HG : Hid (∀ k, k < l.length → ∃ x, l[k]? = some x) := fun k hk => ⟨_, List.getElem?_eq_getElem hk⟩
    have HB : Hid (∀ b m k wr, TActsAt w b m k wr → Below w.heap.size w wr) := fun b m k wr ⟨_, _, _, _, h⟩ => h.1
    have HR : Hid (∀ b m k wr, TActsAt w b m k wr → k < 1000 → ∀ k0 x y z u : Int, x < 9223372036854775808 → y < 9223372036854775808 → ∃ inn ub ul ml, (inn && ul) = false ∧ (y ∈ ml ↔ inn = true) ∧ ml.length < 1000000000000 ∧ TRound w b m k wr.heap.size bl k0 x y z u inn ub ul (inn || (ul && decide (bl ≤ ub))) ml (wr.alloc (.cells #[.int .i64 k0, .int .i64 x, .int .i64 y, .int .i64 z, .int .i64 u] 30))) := fun b m k wr h hk k0 x y z u hx hy => tround h hk bl k0 x y z u hx hy
    have HD : Hid (∀ b m k wr, TActsAt w b m k wr → Calls Tryz.prog 7 #[] wr fun e w' => e = .returned (.bool true) ∧ Below w.heap.size w w') := fun b m k wr ⟨_, _, _, _, h⟩ => (lives27 wr).mono fun e w' ⟨he, hb⟩ => ⟨he, h.1.trans (hb.mono h.1.size)⟩
    have hcv : wrap64 bl = bl := by unfold wrap64; omega
    clear h
    generalize l.length = n at *
    go_enter Tryz.func3, Tryz.ntmps3
    go_wp2_with fail
    refine HN.out.mono ?_
    rintro e w1 ⟨b, m, rfl, hT⟩
    have H0 : Hid (TActsAt w b m 0 w1) := ⟨m27, f27, m27_good, m27_inv, hT⟩
    clear hT
    go_wp2_with fail
    go_loopw [28] (fun i wr => ∃ k : Nat, i = .int .i64 k ∧ k ≤ n ∧ TActsAt w b m k wr) (fun i _ => n - (intOf i).toNat)
    case atStart => exact ⟨0, rfl, by omega, H0.out⟩
    case round =>
      obtain ⟨k, rfl, hk, hA⟩ := hrel
      have HA := Lib.hid hA
      clear hA H0
      by_cases hlt : k < n
      · obtain ⟨⟨k0, x, y, z, u⟩, hx⟩ := HG.out k hlt
        obtain ⟨ad, rfl, q0, q1, q2, q3, q4⟩ := HC.out wr k _ (HB.out _ _ _ _ HA.out) hx
        obtain ⟨hy, hz⟩ := HLT.out k _ hx
        simp only at q0 q1 q2 q3 q4 hy hz
        obtain ⟨inn, ub, ul, ml, hio, hmem, hlen, hRO⟩ := HR.out b m k wr HA.out (by omega) k0 x y z u hy hz
        have HRO := Lib.hid hRO
        have HMEM := Lib.hid hmem
        have hn0 := World.new_ne wr
        unfold TRound at HRO
        clear hx hy hz hRO hmem
        cases inn with
        | true =>
          cases ul with
          | true => cases hio
          | false =>
            clear hio
            simp only [Bool.true_or] at HRO
            go_wp2_with fail
            refine Calls.mono HRO.out ?_
            rintro e v1 ⟨rfl, ⟨g0, i0, j0, l0, m0⟩, hS⟩
            have HS1 := Lib.hid hS
            clear hS HRO
            go_wp2_with fail
            refine Calls.mono HS1.out ?_
            rintro e v2 ⟨rfl, ⟨g1, i1, j1, l1, m1⟩, hS⟩
            have HS2 := Lib.hid hS
            clear hS HS1
            go_wp2_with fail
            refine Calls.mono HS2.out ?_
            rintro e v3 ⟨rfl, ⟨g2, i2, j2, l2, m2⟩, hS⟩
            have HS3 := Lib.hid hS
            clear hS HS2
            go_wp2_with fail
            refine Calls.mono HS3.out ?_
            rintro e v4 ⟨rfl, ⟨g3, i3, j3, l3, m3⟩, hS⟩
            have HS4 := Lib.hid hS
            clear hS HS3
            go_wp2_with fail
            refine Calls.mono HS4.out ?_
            rintro e v5 ⟨a6, c6, rfl, hl, ⟨g5, i5, j5, l5, m5⟩, hA5, hJ⟩
            have HI := Lib.hid hl
            have HA5 := Lib.hid hA5
            have HJ := Lib.hid hJ
            have HJ5 := Lib.hid j5
            clear hl hA5 hJ HS4
            go_wp2_with fail
            go_loopw [13, 79] (fun fv iv wv => ∃ (j : Nat) (fd : Bool), fv = .bool fd ∧ iv = .int .i64 j ∧ j ≤ ml.length ∧ fd = decide (y ∈ ml.take j) ∧ v5 = wv) (fun _ iv _ => ml.length - (intOf iv).toNat)
            case atStart => exact ⟨0, false, rfl, rfl, by omega, by simp, rfl⟩
            case round =>
              obtain ⟨j, fd, rfl, rfl, hj, hfd, hw⟩ := hrel
              by_cases hjl : j < ml.length
              · obtain ⟨g, hx'⟩ : ∃ g, ml[j]? = some g := ⟨_, List.getElem?_eq_getElem hjl⟩
                obtain ⟨gg, hgg, qg⟩ := HI.out.at0 j g hx'
                subst hgg
                subst hw
                have htk : decide (y ∈ ml.take (j + 1)) = (fd || (g == y)) := by
                  rw [hfd, take_one_more ml j g hx', Bool.eq_iff_iff]
                  simp only [decide_eq_true_eq, List.mem_append, List.mem_singleton, Bool.or_eq_true, beq_iff_eq]
                  exact or_congr Iff.rfl eq_comm
                have HTK := Lib.hid htk
                clear htk hfd hx'
                cases fd with
                | true =>
                  go_wp2_with fail
                  go_roundw
                  case rel => exact ⟨j + 1, true, rfl, by go_num, by omega, by rw [HTK.out]; rfl, by first | rfl | trivial⟩
                  case measure => simp [intOf]; omega
                | false =>
                  go_wp2_with fail
                  go_roundw
                  case rel => exact ⟨j + 1, (g == y), rfl, by go_num, by omega, by rw [HTK.out]; rfl, by first | rfl | trivial⟩
                  case measure => simp [intOf]; omega
              · obtain rfl : j = ml.length := by omega
                subst hw
                have hfin : fd = true := by
                  rw [hfd, List.take_length]
                  exact decide_eq_true (HMEM.out.2 (by first | rfl | trivial))
                subst hfin
                clear HJ hfd
                go_wp2_with fail
                go_roundw
                case rel => exact ⟨k + 1, by go_num, by omega, HA5.out⟩
                case measure => simp [intOf]; omega
        | false =>
          cases ul with
          | false =>
            clear hio
            simp only [Bool.false_or, Bool.false_and] at HRO
            go_wp2_with fail
            refine Calls.mono HRO.out ?_
            rintro e v1 ⟨rfl, ⟨g0, i0, j0, l0, m0⟩, hS⟩
            have HS1 := Lib.hid hS
            clear hS HRO
            go_wp2_with fail
            refine Calls.mono HS1.out ?_
            rintro e v2 ⟨rfl, ⟨g1, i1, j1, l1, m1⟩, hS⟩
            have HS2 := Lib.hid hS
            clear hS HS1
            go_wp2_with fail
            refine Calls.mono HS2.out ?_
            rintro e v3 ⟨rfl, ⟨g2, i2, j2, l2, m2⟩, hS⟩
            have HS3 := Lib.hid hS
            clear hS HS2
            go_wp2_with fail
            refine Calls.mono HS3.out ?_
            rintro e v4 ⟨rfl, ⟨g3, i3, j3, l3, m3⟩, hS⟩
            have HS4 := Lib.hid hS
            clear hS HS3
            go_wp2_with fail
            refine Calls.mono HS4.out ?_
            rintro e v5 ⟨a6, c6, rfl, hl, ⟨g5, i5, j5, l5, m5⟩, hA5, hJ⟩
            have HI := Lib.hid hl
            have HA5 := Lib.hid hA5
            have HJ := Lib.hid hJ
            have HJ5 := Lib.hid j5
            clear hl hA5 hJ HS4
            go_wp2_with fail
            go_loopw [13, 79] (fun fv iv wv => ∃ (j : Nat) (fd : Bool), fv = .bool fd ∧ iv = .int .i64 j ∧ j ≤ ml.length ∧ fd = decide (y ∈ ml.take j) ∧ v5 = wv) (fun _ iv _ => ml.length - (intOf iv).toNat)
            case atStart => exact ⟨0, false, rfl, rfl, by omega, by simp, rfl⟩
            case round =>
              obtain ⟨j, fd, rfl, rfl, hj, hfd, hw⟩ := hrel
              by_cases hjl : j < ml.length
              · obtain ⟨g, hx'⟩ : ∃ g, ml[j]? = some g := ⟨_, List.getElem?_eq_getElem hjl⟩
                obtain ⟨gg, hgg, qg⟩ := HI.out.at0 j g hx'
                subst hgg
                subst hw
                have htk : decide (y ∈ ml.take (j + 1)) = (fd || (g == y)) := by
                  rw [hfd, take_one_more ml j g hx', Bool.eq_iff_iff]
                  simp only [decide_eq_true_eq, List.mem_append, List.mem_singleton, Bool.or_eq_true, beq_iff_eq]
                  exact or_congr Iff.rfl eq_comm
                have HTK := Lib.hid htk
                clear htk hfd hx'
                cases fd with
                | true =>
                  go_wp2_with fail
                  go_roundw
                  case rel => exact ⟨j + 1, true, rfl, by go_num, by omega, by rw [HTK.out]; rfl, by first | rfl | trivial⟩
                  case measure => simp [intOf]; omega
                | false =>
                  go_wp2_with fail
                  go_roundw
                  case rel => exact ⟨j + 1, (g == y), rfl, by go_num, by omega, by rw [HTK.out]; rfl, by first | rfl | trivial⟩
                  case measure => simp [intOf]; omega
              · obtain rfl : j = ml.length := by omega
                subst hw
                have hfin : fd = false := by
                  rw [hfd, List.take_length]
                  exact decide_eq_false (fun hm => Bool.noConfusion (HMEM.out.1 hm))
                subst hfin
                clear HJ hfd
                go_wp2_with fail
                go_roundw
                case rel => exact ⟨k + 1, by go_num, by omega, HA5.out⟩
                case measure => simp [intOf]; omega
          | true =>
            clear hio
            simp only [Bool.false_or, Bool.true_and] at HRO
            cases hdd : decide (bl ≤ ub) with
            | true =>
              rw [hdd] at HRO
              go_wp2_with fail
              refine Calls.mono HRO.out ?_
              rintro e v1 ⟨rfl, ⟨g0, i0, j0, l0, m0⟩, hS⟩
              have HS1 := Lib.hid hS
              clear hS HRO
              go_wp2_with fail
              refine Calls.mono HS1.out ?_
              rintro e v2 ⟨rfl, ⟨g1, i1, j1, l1, m1⟩, hS⟩
              have HS2 := Lib.hid hS
              clear hS HS1
              go_wp2_with fail
              refine Calls.mono HS2.out ?_
              rintro e v3 ⟨rfl, ⟨g2, i2, j2, l2, m2⟩, hS⟩
              have HS3 := Lib.hid hS
              clear hS HS2
              go_wp2_with fail
              refine Calls.mono HS3.out ?_
              rintro e v4 ⟨rfl, ⟨g3, i3, j3, l3, m3⟩, hS⟩
              have HS4 := Lib.hid hS
              clear hS HS3
              go_wp2_with fail
              refine Calls.mono HS4.out ?_
              rintro e v5 ⟨a6, c6, rfl, hl, ⟨g5, i5, j5, l5, m5⟩, hA5, hJ⟩
              have HI := Lib.hid hl
              have HA5 := Lib.hid hA5
              have HJ := Lib.hid hJ
              have HJ5 := Lib.hid j5
              clear hl hA5 hJ HS4
              go_wp2_with fail
              go_loopw [13, 79] (fun fv iv wv => ∃ (j : Nat) (fd : Bool), fv = .bool fd ∧ iv = .int .i64 j ∧ j ≤ ml.length ∧ fd = decide (y ∈ ml.take j) ∧ v5 = wv) (fun _ iv _ => ml.length - (intOf iv).toNat)
              case atStart => exact ⟨0, false, rfl, rfl, by omega, by simp, rfl⟩
              case round =>
                obtain ⟨j, fd, rfl, rfl, hj, hfd, hw⟩ := hrel
                by_cases hjl : j < ml.length
                · obtain ⟨g, hx'⟩ : ∃ g, ml[j]? = some g := ⟨_, List.getElem?_eq_getElem hjl⟩
                  obtain ⟨gg, hgg, qg⟩ := HI.out.at0 j g hx'
                  subst hgg
                  subst hw
                  have htk : decide (y ∈ ml.take (j + 1)) = (fd || (g == y)) := by
                    rw [hfd, take_one_more ml j g hx', Bool.eq_iff_iff]
                    simp only [decide_eq_true_eq, List.mem_append, List.mem_singleton, Bool.or_eq_true, beq_iff_eq]
                    exact or_congr Iff.rfl eq_comm
                  have HTK := Lib.hid htk
                  clear htk hfd hx'
                  cases fd with
                  | true =>
                    go_wp2_with fail
                    go_roundw
                    case rel => exact ⟨j + 1, true, rfl, by go_num, by omega, by rw [HTK.out]; rfl, by first | rfl | trivial⟩
                    case measure => simp [intOf]; omega
                  | false =>
                    go_wp2_with fail
                    go_roundw
                    case rel => exact ⟨j + 1, (g == y), rfl, by go_num, by omega, by rw [HTK.out]; rfl, by first | rfl | trivial⟩
                    case measure => simp [intOf]; omega
                · obtain rfl : j = ml.length := by omega
                  subst hw
                  have hfin : fd = false := by
                    rw [hfd, List.take_length]
                    exact decide_eq_false (fun hm => Bool.noConfusion (HMEM.out.1 hm))
                  subst hfin
                  have HJ2 := Lib.hid (HJ.out (by first | rfl | trivial) (by first | rfl | trivial))
                  clear HJ hfd
                  go_wp2_with fail
                  refine Calls.mono HJ2.out ?_
                  rintro e v6 ⟨r, rfl, hr, hA6⟩
                  have HA6 := Lib.hid hA6
                  clear hA6 HJ2
                  go_wp2_with fail
                  go_roundw
                  case rel => exact ⟨k + 1, by go_num, by omega, HA6.out⟩
                  case measure => simp [intOf]; omega
            | false =>
              rw [hdd] at HRO
              go_wp2_with fail
              refine Calls.mono HRO.out ?_
              rintro e v1 ⟨rfl, ⟨g0, i0, j0, l0, m0⟩, hS⟩
              have HS1 := Lib.hid hS
              clear hS HRO
              go_wp2_with fail
              refine Calls.mono HS1.out ?_
              rintro e v2 ⟨rfl, ⟨g1, i1, j1, l1, m1⟩, hS⟩
              have HS2 := Lib.hid hS
              clear hS HS1
              go_wp2_with fail
              refine Calls.mono HS2.out ?_
              rintro e v3 ⟨rfl, ⟨g2, i2, j2, l2, m2⟩, hS⟩
              have HS3 := Lib.hid hS
              clear hS HS2
              go_wp2_with fail
              refine Calls.mono HS3.out ?_
              rintro e v4 ⟨rfl, ⟨g3, i3, j3, l3, m3⟩, hS⟩
              have HS4 := Lib.hid hS
              clear hS HS3
              go_wp2_with fail
              refine Calls.mono HS4.out ?_
              rintro e v5 ⟨a6, c6, rfl, hl, ⟨g5, i5, j5, l5, m5⟩, hA5, hJ⟩
              have HI := Lib.hid hl
              have HA5 := Lib.hid hA5
              have HJ := Lib.hid hJ
              have HJ5 := Lib.hid j5
              clear hl hA5 hJ HS4
              go_wp2_with fail
              go_loopw [13, 79] (fun fv iv wv => ∃ (j : Nat) (fd : Bool), fv = .bool fd ∧ iv = .int .i64 j ∧ j ≤ ml.length ∧ fd = decide (y ∈ ml.take j) ∧ v5 = wv) (fun _ iv _ => ml.length - (intOf iv).toNat)
              case atStart => exact ⟨0, false, rfl, rfl, by omega, by simp, rfl⟩
              case round =>
                obtain ⟨j, fd, rfl, rfl, hj, hfd, hw⟩ := hrel
                by_cases hjl : j < ml.length
                · obtain ⟨g, hx'⟩ : ∃ g, ml[j]? = some g := ⟨_, List.getElem?_eq_getElem hjl⟩
                  obtain ⟨gg, hgg, qg⟩ := HI.out.at0 j g hx'
                  subst hgg
                  subst hw
                  have htk : decide (y ∈ ml.take (j + 1)) = (fd || (g == y)) := by
                    rw [hfd, take_one_more ml j g hx', Bool.eq_iff_iff]
                    simp only [decide_eq_true_eq, List.mem_append, List.mem_singleton, Bool.or_eq_true, beq_iff_eq]
                    exact or_congr Iff.rfl eq_comm
                  have HTK := Lib.hid htk
                  clear htk hfd hx'
                  cases fd with
                  | true =>
                    go_wp2_with fail
                    go_roundw
                    case rel => exact ⟨j + 1, true, rfl, by go_num, by omega, by rw [HTK.out]; rfl, by first | rfl | trivial⟩
                    case measure => simp [intOf]; omega
                  | false =>
                    go_wp2_with fail
                    go_roundw
                    case rel => exact ⟨j + 1, (g == y), rfl, by go_num, by omega, by rw [HTK.out]; rfl, by first | rfl | trivial⟩
                    case measure => simp [intOf]; omega
                · obtain rfl : j = ml.length := by omega
                  subst hw
                  have hfin : fd = false := by
                    rw [hfd, List.take_length]
                    exact decide_eq_false (fun hm => Bool.noConfusion (HMEM.out.1 hm))
                  subst hfin
                  clear HJ hfd
                  go_wp2_with fail
                  go_roundw
                  case rel => exact ⟨k + 1, by go_num, by omega, HA5.out⟩
                  case measure => simp [intOf]; omega
      · obtain rfl : k = n := by omega
        have HDO := Lib.hid (HD.out b m k wr HA.out)
        go_wp2_with fail
        refine Calls.mono HDO.out ?_
        rintro e w9 ⟨rfl, hb9⟩
        go_wp2_with fail
        go_ret
        exact ⟨rfl, hb9⟩
end Go.Proofs.YtngaogfhijaaaaaGreat
