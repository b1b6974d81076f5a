/- What is proved here: slices.Insert of one element into a slice of the program's own, where there is room: in place. -/
import Derived.Test.YtnblhjndngpbnaaGreatInsert
namespace Go.Proofs.YtnblhjndngpbnaaGreat
open Go.RowKit

set_option maxRecDepth 100000 in
set_option maxHeartbeats 1000000 in
/-- in the midst, where there is room -/
theorem insK_shift (w : World) (g c : Nat) (cur : Array Value) (xs : List Value) (vb : Nat) (x : Value) (n i : Nat) (hn : n = xs.length) (hi : i < n)
    (hg : w.heap[g]? = some (.cells cur 9 (0, 0))) (hnc : n ≤ c) (hcm : c ≤ maxLen) (hcs : c ≤ cur.size) (hx : cur.toList.take n = xs) (hroom : n + 1 ≤ c)
    (hv : w.heap[vb]? = some (.cells #[x] 9 (0, 0))) (hvg : vb ≠ g) (hox : x.oneCell' = true) (hoxs : ∀ u ∈ xs, u.oneCell' = true) (hb : n < 1099511627776) :
    Calls Tryz.prog 116 #[.slice (some ⟨g, 0, none⟩) n c, .int .i64 i, .slice (some ⟨vb, 0, none⟩) 1 1] w (RetIns w 9 g i x xs) := by
  have hov : ∀ (w : World) lb cb, w.heap[vb]? = some (.cells #[x] 9 (0, 0)) → w.heap[g]? = some (.cells cur 9 (0, 0)) → (callFunc 130 #[.slice (some ⟨vb, 0, none⟩) 1 1, .slice (some ⟨g, i + 1, none⟩) lb cb]).run Tryz.prog w = .ok (.value (.bool false)) w := fun w lb cb h1 h2 => by
    rw [run_callFunc_extern Tryz.func130 (by kernel_rfl) (by kernel_rfl) (by kernel_rfl) (e := Extern.SlicesOverlaps.overlaps #[99, 99] #[4]) (by kernel_rfl),
      Lib.run_overlaps_apart w 99 4 9 insKV.und 1 (fun w => by obtain ⟨i, hi, hz0, hz1, hz2⟩ := info_parts insKV.info; simp [sizeOf, typeInfo, hi, hz1]) ⟨vb, 0, none⟩ ⟨g, i + 1, none⟩ 1 1 lb cb hvg 9 9 1 cur.size
      (by simp [World.shape?, h1]) (by simp [World.shape?, h2]) (by omega) (by simp [World.frozen?, h1]) (by simp [World.frozen?, h1])]
    rfl
  have hlen : cur.toList.length = cur.size := rfl
  have hci : ¬ c = i := by omega
  have hci1 : ¬ c = i + 1 := by omega
  have hld : (xs.drop i).length = n - i := by simp; omega
  -- the first copy
  have hcp1 : ∀ ty, (Builtin.copy_ #[100, 100] ty #[.slice (some ⟨g, i + 1, none⟩) (n - i) (c - (i + 1)), .slice (some ⟨g, i, none⟩) (n + 1 - i) (c - i)]).run Tryz.prog w.drew = _ := fun ty =>
    run_copyT (w := w.drew) insKT ty (xs.drop i) hg (by rw [hld]; simp only [Nat.min_def]; split <;> omega) (cells_from (w := w.drew) hg xs n i hx) (by rw [hld]; omega) (fun u hu => hoxs u (List.mem_of_mem_drop hu))
  obtain ⟨cur3, hcur3⟩ : ∃ cur3 : Array Value, cur3 = (cur.toList.take (i + 1) ++ xs.drop i ++ cur.toList.drop (i + 1 + (xs.drop i).length)).toArray := ⟨_, rfl⟩
  rw [← hcur3] at hcp1
  have hl3 : cur3.size = cur.size := by rw [hcur3]; simp; omega
  have hg3 : (w.drew.setRow g cur3).heap[g]? = some (.cells cur3 9 (0, 0)) := setRow_heap w.drew _ _ _ _ _ hg
  have hfr3 : Fr (· = g) w (w.drew.setRow g cur3) := ((Fr.refl _ w).drew).setRow _ _ (.inr rfl)
  have hv3 : (w.drew.setRow g cur3).heap[vb]? = some (.cells #[x] 9 (0, 0)) := by rw [setRow_other _ _ _ _ hvg]; exact hv
  generalize w.drew.setRow g cur3 = w3 at hcp1 hg3 hv3 hfr3
  -- the second copy
  have hcp2 : ∀ ty, (Builtin.copy_ #[100, 99] ty #[.slice (some ⟨g, i, none⟩) (n + 1 - i) (c - i), .slice (some ⟨vb, 0, none⟩) 1 1]).run Tryz.prog w3 = _ := fun ty =>
    run_copyT insKT ty [x] hg3 (by show 1 = Nat.min 1 _; simp only [Nat.min_def]; split <;> omega) (cells_one hv3) (by rw [hl3]; simp; omega) (by simpa using hox)
  have hfin := ins_room cur.toList xs x i (by omega) (by rw [← hn]; exact hx) (by omega)
  obtain ⟨w4, hw4⟩ : ∃ w4, w4 = w3.setRow g (cur3.toList.take i ++ [x] ++ cur3.toList.drop (i + [x].length)).toArray := ⟨_, rfl⟩
  rw [← hw4] at hcp2
  have hg4 := setRow_heap w3 g cur3 (cur3.toList.take i ++ [x] ++ cur3.toList.drop (i + [x].length)).toArray 9 (0, 0) hg3
  rw [← hw4] at hg4
  have hfr4 : Fr (· = g) w w4 := by rw [hw4]; exact hfr3.setRow _ _ (.inr rfl)
  have HG4 := Lib.hid hg4
  have HF4 := Lib.hid hfr4
  clear hw4 hg4 hfr4 hfr3
  have HOV : Hid (∀ lb cb, (callFunc 130 #[.slice (some ⟨vb, 0, none⟩) 1 1, .slice (some ⟨g, i + 1, none⟩) lb cb]).run Tryz.prog w = .ok (.value (.bool false)) w) := fun lb cb => hov w lb cb hv hg
  have H1 := Lib.hid hcp1
  have H2 := Lib.hid hcp2
  have HF := Lib.hid hfin
  have H3 := Lib.hid hcur3
  have HN := Lib.hid hn
  have HL := Lib.hid hl3
  have HS := Lib.hid hcs
  have HM := Lib.hid hcm
  have HD := Lib.hid hld
  have hin : i ≤ n := by omega
  have hcm' : c ≤ 9223372036854775807 := hcm
  clear hov hcp1 hcp2 hfin hcur3 hg3 hn hl3 hcs hcm hld hoxs hx hg hv hv3 hlen
  have hovw := HOV.out
  go_enter Tryz.func116, Tryz.ntmps116
  go_wp2
  clear hovw
  have e0 : 0 ≤ (i : Int) + 1 := by omega
  have et : ((i : Int) + 1).toNat = i + 1 := by omega
  have el : (i : Int) ≤ (n : Int) := by omega
  have ew : IntKind.i64.wrap ((i : Int) + 1) = (i : Int) + 1 := IntWalk.i64_in _ (by omega)
  have el2 : (i : Int) ≤ (n : Int) + 1 := by clear ew; omega
  go_still_tail 8, (by kernel_rfl)
  clear ew e0 et el el2
  refine wpList_value rfl _ _ (exec_copy rfl rfl rfl (H1.out _)) ?_
  go_wp2_with (refine wpList_value (o := ⟨some 82, _, _, _, _, _⟩) rfl _ _ (exec_copy rfl rfl rfl (H2.out _)) ?_)
  go_ret
  have hN := HN.out
  subst hN
  refine ⟨_, rfl, ?_, ?_, ?_⟩
  · refine ⟨by simp; omega, .inr ⟨g, c, _, rfl, HG4.out, hroom, HM.out, ?_, ?_⟩⟩
    · have h1 := HL.out; have h2 := HS.out; have h3 := HD.out
      simp; omega
    · have h3 := H3.out
      have hF := HF.out
      rw [h3]
      simpa using hF
  · exact HF4.out
  · intro k hk
    simp [Value.ownBlock] at hk
    exact .inl hk.symm

set_option maxRecDepth 100000 in
set_option maxHeartbeats 1000000 in
/-- in the midst, where there is room -/
theorem insB_shift (w : World) (g c : Nat) (cur : Array Value) (xs : List Value) (vb : Nat) (x : Value) (n i : Nat) (hn : n = xs.length) (hi : i < n)
    (hg : w.heap[g]? = some (.cells cur 100 (0, 0))) (hnc : n ≤ c) (hcm : c ≤ maxLen) (hcs : c ≤ cur.size) (hx : cur.toList.take n = xs) (hroom : n + 1 ≤ c)
    (hv : w.heap[vb]? = some (.cells #[x] 100 (0, 0))) (hvg : vb ≠ g) (hox : x.oneCell' = true) (hoxs : ∀ u ∈ xs, u.oneCell' = true) (hb : n < 1099511627776) :
    Calls Tryz.prog 117 #[.slice (some ⟨g, 0, none⟩) n c, .int .i64 i, .slice (some ⟨vb, 0, none⟩) 1 1] w (RetIns w 100 g i x xs) := by
  have hov : ∀ (w : World) lb cb, w.heap[vb]? = some (.cells #[x] 100 (0, 0)) → w.heap[g]? = some (.cells cur 100 (0, 0)) → (callFunc 132 #[.slice (some ⟨vb, 0, none⟩) 1 1, .slice (some ⟨g, i + 1, none⟩) lb cb]).run Tryz.prog w = .ok (.value (.bool false)) w := fun w lb cb h1 h2 => by
    rw [run_callFunc_extern Tryz.func132 (by kernel_rfl) (by kernel_rfl) (by kernel_rfl) (e := Extern.SlicesOverlaps.overlaps #[59, 59] #[4]) (by kernel_rfl),
      Lib.run_overlaps_apart w 59 4 100 insBV.und 1 (fun w => by obtain ⟨i, hi, hz0, hz1, hz2⟩ := info_parts insBV.info; simp [sizeOf, typeInfo, hi, hz1]) ⟨vb, 0, none⟩ ⟨g, i + 1, none⟩ 1 1 lb cb hvg 100 100 1 cur.size
      (by simp [World.shape?, h1]) (by simp [World.shape?, h2]) (by omega) (by simp [World.frozen?, h1]) (by simp [World.frozen?, h1])]
    rfl
  have hlen : cur.toList.length = cur.size := rfl
  have hci : ¬ c = i := by omega
  have hci1 : ¬ c = i + 1 := by omega
  have hld : (xs.drop i).length = n - i := by simp; omega
  -- the first copy
  have hcp1 : ∀ ty, (Builtin.copy_ #[59, 59] ty #[.slice (some ⟨g, i + 1, none⟩) (n - i) (c - (i + 1)), .slice (some ⟨g, i, none⟩) (n + 1 - i) (c - i)]).run Tryz.prog w.drew = _ := fun ty =>
    run_copyT (w := w.drew) insBT ty (xs.drop i) hg (by rw [hld]; simp only [Nat.min_def]; split <;> omega) (cells_from (w := w.drew) hg xs n i hx) (by rw [hld]; omega) (fun u hu => hoxs u (List.mem_of_mem_drop hu))
  obtain ⟨cur3, hcur3⟩ : ∃ cur3 : Array Value, cur3 = (cur.toList.take (i + 1) ++ xs.drop i ++ cur.toList.drop (i + 1 + (xs.drop i).length)).toArray := ⟨_, rfl⟩
  rw [← hcur3] at hcp1
  have hl3 : cur3.size = cur.size := by rw [hcur3]; simp; omega
  have hg3 : (w.drew.setRow g cur3).heap[g]? = some (.cells cur3 100 (0, 0)) := setRow_heap w.drew _ _ _ _ _ hg
  have hfr3 : Fr (· = g) w (w.drew.setRow g cur3) := ((Fr.refl _ w).drew).setRow _ _ (.inr rfl)
  have hv3 : (w.drew.setRow g cur3).heap[vb]? = some (.cells #[x] 100 (0, 0)) := by rw [setRow_other _ _ _ _ hvg]; exact hv
  generalize w.drew.setRow g cur3 = w3 at hcp1 hg3 hv3 hfr3
  -- the second copy
  have hcp2 : ∀ ty, (Builtin.copy_ #[59, 59] ty #[.slice (some ⟨g, i, none⟩) (n + 1 - i) (c - i), .slice (some ⟨vb, 0, none⟩) 1 1]).run Tryz.prog w3 = _ := fun ty =>
    run_copyT insBT ty [x] hg3 (by show 1 = Nat.min 1 _; simp only [Nat.min_def]; split <;> omega) (cells_one hv3) (by rw [hl3]; simp; omega) (by simpa using hox)
  have hfin := ins_room cur.toList xs x i (by omega) (by rw [← hn]; exact hx) (by omega)
  obtain ⟨w4, hw4⟩ : ∃ w4, w4 = w3.setRow g (cur3.toList.take i ++ [x] ++ cur3.toList.drop (i + [x].length)).toArray := ⟨_, rfl⟩
  rw [← hw4] at hcp2
  have hg4 := setRow_heap w3 g cur3 (cur3.toList.take i ++ [x] ++ cur3.toList.drop (i + [x].length)).toArray 100 (0, 0) hg3
  rw [← hw4] at hg4
  have hfr4 : Fr (· = g) w w4 := by rw [hw4]; exact hfr3.setRow _ _ (.inr rfl)
  have HG4 := Lib.hid hg4
  have HF4 := Lib.hid hfr4
  clear hw4 hg4 hfr4 hfr3
  have HOV : Hid (∀ lb cb, (callFunc 132 #[.slice (some ⟨vb, 0, none⟩) 1 1, .slice (some ⟨g, i + 1, none⟩) lb cb]).run Tryz.prog w = .ok (.value (.bool false)) w) := fun lb cb => hov w lb cb hv hg
  have H1 := Lib.hid hcp1
  have H2 := Lib.hid hcp2
  have HF := Lib.hid hfin
  have H3 := Lib.hid hcur3
  have HN := Lib.hid hn
  have HL := Lib.hid hl3
  have HS := Lib.hid hcs
  have HM := Lib.hid hcm
  have HD := Lib.hid hld
  have hin : i ≤ n := by omega
  have hcm' : c ≤ 9223372036854775807 := hcm
  clear hov hcp1 hcp2 hfin hcur3 hg3 hn hl3 hcs hcm hld hoxs hx hg hv hv3 hlen
  have hovw := HOV.out
  go_enter Tryz.func117, Tryz.ntmps117
  go_wp2
  clear hovw
  have e0 : 0 ≤ (i : Int) + 1 := by omega
  have et : ((i : Int) + 1).toNat = i + 1 := by omega
  have el : (i : Int) ≤ (n : Int) := by omega
  have ew : IntKind.i64.wrap ((i : Int) + 1) = (i : Int) + 1 := IntWalk.i64_in _ (by omega)
  have el2 : (i : Int) ≤ (n : Int) + 1 := by clear ew; omega
  go_still_tail 8, (by kernel_rfl)
  clear ew e0 et el el2
  refine wpList_value rfl _ _ (exec_copy rfl rfl rfl (H1.out _)) ?_
  go_wp2_with (refine wpList_value (o := ⟨some 82, _, _, _, _, _⟩) rfl _ _ (exec_copy rfl rfl rfl (H2.out _)) ?_)
  go_ret
  have hN := HN.out
  subst hN
  refine ⟨_, rfl, ?_, ?_, ?_⟩
  · refine ⟨by simp; omega, .inr ⟨g, c, _, rfl, HG4.out, hroom, HM.out, ?_, ?_⟩⟩
    · have h1 := HL.out; have h2 := HS.out; have h3 := HD.out
      simp; omega
    · have h3 := H3.out
      have hF := HF.out
      rw [h3]
      simpa using hF
  · exact HF4.out
  · intro k hk
    simp [Value.ownBlock] at hk
    exact .inl hk.symm

end Go.Proofs.YtnblhjndngpbnaaGreat
