/- What is proved here: slices.Insert of one element into a slice of the program's own (its keys, its rows of keys): the elements with the new one at its place; nothing else changes but the slice's own block. -/
import Derived.Test.YtnblhjndngpbnaaGreatCmp
import Derived.Lib.AppendZerosOnto
import Derived.Lib.Overlaps
namespace Go.Proofs.YtnblhjndngpbnaaGreat
open Go.RowKit

theorem ins_grow {A : Type} (xs zs : List A) (x : A) (i : Nat) (hi : i ≤ xs.length) :
    (((((xs.take i ++ zs).take i ++ [x] ++ (xs.take i ++ zs).drop (i + 1)).take (i + 1)) ++ xs.drop i ++ ((xs.take i ++ zs).take i ++ [x] ++ (xs.take i ++ zs).drop (i + 1)).drop (i + 1 + (xs.drop i).length)).take (xs.length + 1)) = xs.take i ++ x :: xs.drop i := by
  have h1 : (xs.take i ++ zs).take i = xs.take i := by
    rw [List.take_append_of_le_length (by simp; omega), List.take_take]; simp
  have h2 : (xs.take i ++ [x] ++ (xs.take i ++ zs).drop (i + 1)).take (i + 1) = xs.take i ++ [x] := by
    rw [List.take_append_of_le_length (by simp; omega)]
    exact List.take_of_length_le (by simp; omega)
  rw [h1, h2, List.take_append_of_le_length (by simp; omega), List.take_of_length_le (by simp; omega)]
  simp

theorem ins_room {A : Type} (cur xs : List A) (x : A) (i : Nat) (hi : i ≤ xs.length) (hc : cur.take xs.length = xs) (hl : xs.length < cur.length) :
    (((cur.take (i + 1) ++ xs.drop i ++ cur.drop (i + 1 + (xs.drop i).length)).take i ++ [x] ++ (cur.take (i + 1) ++ xs.drop i ++ cur.drop (i + 1 + (xs.drop i).length)).drop (i + 1)).take (xs.length + 1)) = xs.take i ++ x :: xs.drop i := by
  have h0 : (cur.take (i + 1)).length = i + 1 := by simp; omega
  have h1 : (cur.take (i + 1) ++ xs.drop i ++ cur.drop (i + 1 + (xs.drop i).length)).take i = xs.take i := by
    rw [List.append_assoc, List.take_append_of_le_length (by omega), List.take_take, ← hc, List.take_take]
    congr 1; omega
  have h2 : (cur.take (i + 1) ++ xs.drop i ++ cur.drop (i + 1 + (xs.drop i).length)).drop (i + 1) = xs.drop i ++ cur.drop (i + 1 + (xs.drop i).length) := by
    rw [List.append_assoc, List.drop_append_of_le_length (by omega), List.drop_of_length_le (by omega)]; rfl
  rw [h1, h2]
  rw [show xs.take i ++ [x] ++ (xs.drop i ++ cur.drop (i + 1 + (xs.drop i).length)) = (xs.take i ++ x :: xs.drop i) ++ cur.drop (i + 1 + (xs.drop i).length) by simp]
  rw [List.take_append_of_le_length (by simp; omega), List.take_of_length_le (by simp; omega)]

/-- A slice of the program's own with one element more. -/
structure Inserted (w : World) (e : TypeId) (g i : Nat) (x : Value) (xs : List Value) (v' : Value) (w' : World) : Prop where
  own : Own w' e 1 v' (xs.length + 1) (xs.take i ++ x :: xs.drop i)
  fr : Fr (· = g) w w'
  block : ∀ k, v'.ownBlock = some k → k = g ∨ w.heap.size ≤ k

def RetIns (w : World) (e : TypeId) (g i : Nat) (x : Value) (xs : List Value) (en : Ending) (w' : World) : Prop := ∃ v', en = .returned v' ∧ Inserted w e g i x xs v' w'

theorem fr_of_grown {w w' : World} {v : Value} {g : Nat} (h : w.grownBy w' v.ownBlock) (hv : v.ownBlock = some g) : Fr (· = g) w w' :=
  ⟨h.os, h.tape, h.output, h.size, fun k hk hn => h.block k hk (fun e => hn (by rw [hv] at e; exact Option.some.inj e))⟩

theorem cells_one {w : World} {vb : Nat} {e : TypeId} {x : Value} (hv : w.heap[vb]? = some (.cells #[x] e (0, 0))) : ∀ j u, [x][j]? = some u → w.cell? ((⟨vb, 0, none⟩ : Addr).add j) = some u := by
  intro j u hj
  rw [Addr.add_lit, cell_of_row w vb (0 + j) _ _ _ hv]
  simpa using hj

theorem cells_from {w : World} {g : Nat} {e : TypeId} {cur : Array Value} (hg : w.heap[g]? = some (.cells cur e (0, 0))) (xs : List Value) (n i : Nat) (hx : cur.toList.take n = xs) : ∀ j u, (xs.drop i)[j]? = some u → w.cell? ((⟨g, i, none⟩ : Addr).add j) = some u := by
  intro j u hj
  rw [Addr.add_lit, cell_of_row w g (i + j) _ _ _ hg]
  rw [List.getElem?_drop, ← hx, List.getElem?_take] at hj
  split at hj
  · simpa using hj
  · cases hj

theorem insKT : SliceT Tryz.prog 100 9 (.string ⟨#[]⟩) 1 16 := ⟨by kernel_rfl, by kernel_rfl, rfl, by decide⟩
theorem insKV : SliceT Tryz.prog 99 9 (.string ⟨#[]⟩) 1 16 := ⟨by kernel_rfl, by kernel_rfl, rfl, by decide⟩

set_option maxRecDepth 100000 in
set_option maxHeartbeats 1000000 in
/-- at the end -/
theorem insK_end (w : World) (g c : Nat) (cur : Array Value) (xs : List Value) (vb : Nat) (x : Value) (n : Nat) (hn : n = xs.length)
    (hg : w.heap[g]? = some (.cells cur 9 (0, 0))) (hnc : n ≤ c) (hcm : c ≤ maxLen) (hcs : c ≤ cur.size) (hx : cur.toList.take n = xs)
    (hv : w.heap[vb]? = some (.cells #[x] 9 (0, 0))) (hox : x.oneCell' = true) (hb : n < 1099511627776) :
    Calls Tryz.prog 116 #[.slice (some ⟨g, 0, none⟩) n c, .int .i64 n, .slice (some ⟨vb, 0, none⟩) 1 1] w (RetIns w 9 g n x xs) := by
  have hown : Own w 9 1 (.slice (some ⟨g, 0, none⟩) n c) n xs := ⟨by omega, .inr ⟨g, c, cur, rfl, hg, hnc, hcm, by omega, by simpa using hx⟩⟩
  have hnews := cells_one hv
  have hmx : n + 1 ≤ maxLen := by unfold maxLen; omega
  have HX : Hid (n = xs.length) := hn
  have hcm' : c ≤ 9223372036854775807 := hcm
  clear hx hv hcs hcm hn hg
  go_enter Tryz.func116, Tryz.ntmps116
  go_wp2_with (at_builtin; refine wpList_append_Own rfl _ _ 100 99 rfl insKT insKV _ n xs rfl hown _ 1 _ [x] rfl (by simp) hnews (by simpa using hox) hmx (by omega) ?_)
  all_goals
    intro v' w' hA
    go_wp2
    go_ret
    have hO := hA.own
    have hX := HX.out
    subst hX
    exact ⟨_, rfl, by simpa using hO, fr_of_grown hA.grown rfl, fun k hk => by
      rcases hA.block k hk with h | h
      · simp [Value.ownBlock] at h; exact .inl h.symm
      · exact .inr h⟩

set_option maxRecDepth 100000 in
set_option maxHeartbeats 1000000 in
/-- in the midst, where there is no room -/
theorem insK_grow (w : World) (g c : Nat) (cur : Array Value) (xs : List Value) (vb : Nat) (x : Value) (n i : Nat) (hn : n = xs.length) (hi : i < n)
    (hg : w.heap[g]? = some (.cells cur 9 (0, 0))) (hnc : n ≤ c) (hcm : c ≤ maxLen) (_hcs : c ≤ cur.size) (hx : cur.toList.take n = xs) (hroom : c < n + 1)
    (hv : w.heap[vb]? = some (.cells #[x] 9 (0, 0))) (hox : x.oneCell' = true) (hoxs : ∀ u ∈ xs, u.oneCell' = true) (hb : n < 1099511627776) :
    Calls Tryz.prog 116 #[.slice (some ⟨g, 0, none⟩) n c, .int .i64 i, .slice (some ⟨vb, 0, none⟩) 1 1] w (RetIns w 9 g i x xs) := by
  obtain ⟨i0, hi0, hz0, hzs, hzb⟩ := info_parts insKT.info
  have hci : ¬ c = i := by omega
  have hold : (Builtin.firstCells i0.size i (.slice (some ⟨g, 0, none⟩) i c)).run Tryz.prog w.drew = .ok (xs.take i).toArray w.drew := by
    rw [hzs]
    refine run_firstCells_some w.drew 1 i _ i c (xs.take i) (by simp; omega) (fun j v hj => ?_)
    have := cells_from hg xs n 0 hx j v (by rw [List.getElem?_take] at hj; by_cases h : j < i <;> simp [h] at hj; simpa using hj)
    exact this
  obtain ⟨d, hd⟩ : ∃ d, d = n + 1 - i := ⟨_, rfl⟩
  have hid : i + d = n + 1 := by omega
  have hgrow : ∃ c2 w2 cur2, (∀ ty, (Builtin.append_ #[100, 3] ty #[.slice (some ⟨g, 0, none⟩) i c, .int .i64 d]).run Tryz.prog w = .ok (.slice (some ⟨w.heap.size, 0, none⟩) (n + 1) c2) w2) ∧
      n + 1 ≤ c2 ∧ c2 ≤ maxLen ∧ w2.heap[w.heap.size]? = some (.cells cur2 9 (0, 0)) ∧ (∃ zs, cur2.toList = xs.take i ++ zs) ∧ c2 ≤ cur2.size ∧ Fr (fun _ => False) w w2 := by
    have hge := grownCap_ge w (n + 1) c 9
    have hcm2 := grownCap_le_maxLen w (n + 1) c 9 (by unfold maxLen; omega)
    refine ⟨grownCap w (n + 1) c 9, _, (xs.take i).toArray ++ Builtin.zeroCells (Value.cells (.string ⟨#[]⟩)) d ++ Builtin.zeroCells (Value.cells (.string ⟨#[]⟩)) (grownCap w (n + 1) c 9 - (n + 1)), fun ty => ?_, hge, hcm2, heap_alloc_new w.drew _, ⟨(Builtin.zeroCells (Value.cells (.string ⟨#[]⟩)) d ++ Builtin.zeroCells (Value.cells (.string ⟨#[]⟩)) (grownCap w (n + 1) c 9 - (n + 1))).toList, ?_⟩, ?_, ((Fr.refl _ w).drew).alloc _⟩
    · have := Lib.run_append_grow_zeros w 100 3 ty 9 i0 _ .i64 .i64 insKT.und (by kernel_rfl) hi0 hz0 _ i c (xs.take i) hold d (by omega) (by omega) (by omega) (by omega) (by rw [hzb]; omega) (by rw [hzb]; exact growslice_fits (by omega) (by omega))
      rw [hid] at this
      exact this
    · simp only [Array.toList_append, List.append_assoc]
    · simp only [Array.size_append, List.size_toArray, size_zeroCells, List.length_take]
      have : (Value.cells (.string ⟨#[]⟩)).size = 1 := rfl
      rw [this]; omega
  obtain ⟨c2, w2, cur2, hrun, hc2, hc2m, hg2, ⟨zs, hz2⟩, hcs2, hf2⟩ := hgrow
  have hd' : ((n : Int) + 1 - (i : Int)) = (d : Int) := by omega
  have hvw : vb < w.heap.size := lt_of_at hv
  have hgw : g < w.heap.size := lt_of_at hg
  have hl2 : n + 1 ≤ cur2.size := by omega
  have hl2' : n + 1 ≤ cur2.toList.length := hl2
  -- the first copy
  have hcp1 : ∀ ty, (Builtin.copy_ #[100, 99] ty #[.slice (some ⟨w.heap.size, i, none⟩) (n + 1 - i) (c2 - i), .slice (some ⟨vb, 0, none⟩) 1 1]).run Tryz.prog w2 = _ := fun ty =>
    run_copyT insKT ty [x] hg2 (by show 1 = Nat.min 1 _; simp only [Nat.min_def]; split <;> omega) (cells_one (hf2.at hv id)) (by simp; omega) (by simpa using hox)
  obtain ⟨cur3, hcur3⟩ : ∃ cur3 : Array Value, cur3 = (cur2.toList.take i ++ [x] ++ cur2.toList.drop (i + [x].length)).toArray := ⟨_, rfl⟩
  rw [← hcur3] at hcp1
  have hl3 : cur3.size = cur2.size := by rw [hcur3]; simp; omega
  have hg3 : (w2.setRow w.heap.size cur3).heap[w.heap.size]? = some (.cells cur3 9 (0, 0)) := setRow_heap _ _ _ _ _ _ hg2
  have hgo3 : (w2.setRow w.heap.size cur3).heap[g]? = some (.cells cur 9 (0, 0)) := by rw [setRow_other _ _ _ _ (by omega)]; exact hf2.at hg id
  have hld : (xs.drop i).length = n - i := by simp; omega
  -- the second copy
  have hcp2 : ∀ ty, (Builtin.copy_ #[100, 100] ty #[.slice (some ⟨w.heap.size, i + 1, none⟩) (n - i) (c2 - (i + 1)), .slice (some ⟨g, i, none⟩) (n - i) (c - i)]).run Tryz.prog (w2.setRow w.heap.size cur3).drew = _ := fun ty =>
    run_copyT (w := (w2.setRow w.heap.size cur3).drew) insKT ty (xs.drop i) hg3 (by rw [hld]; simp only [Nat.min_def]; split <;> omega) (cells_from (w := (w2.setRow w.heap.size cur3).drew) hgo3 xs n i hx) (by rw [hld]; omega) (fun u hu => hoxs u (List.mem_of_mem_drop hu))
  have hfin := ins_grow xs zs x i (by omega)
  rw [← hz2] at hfin
  have HR := Lib.hid hrun
  have H1 := Lib.hid hcp1
  have H2 := Lib.hid hcp2
  have HF := Lib.hid hfin
  have H3 := Lib.hid hcur3
  have H4 := Lib.hid hg3
  have H5 := Lib.hid hf2
  have HN := Lib.hid hn
  have HL := Lib.hid hl3
  have HS := Lib.hid hcs2
  have hin : i ≤ n := by omega
  have hcm' : c ≤ 9223372036854775807 := hcm
  have hcm2' : c2 ≤ 9223372036854775807 := hc2m
  have hci2 : ¬ c2 = i := by omega
  have hci3 : ¬ c2 = i + 1 := by omega
  have HM := Lib.hid hc2m
  have HD := Lib.hid hld
  clear hold hrun hid hn hx hg hv hi0 hz0 hzs hzb hd _hcs hcm hoxs hcp1 hcp2 hfin hcur3 hl3 hg3 hgo3 hf2 hg2 hz2 hl2 hl2' hld hc2m hcs2 hgw hvw
  go_enter Tryz.func116, Tryz.ntmps116
  go_wp2_with (first | (at_builtin; refine wpList_value rfl _ _ (exec_append rfl rfl rfl (HR.out _)) ?_) | (refine wpList_value (o := ⟨some 45, _, _, _, _, _⟩) rfl _ _ (exec_copy rfl rfl rfl (H1.out _)) ?_))
  have e0 : 0 ≤ (i : Int) + 1 := by omega
  have et : ((i : Int) + 1).toNat = i + 1 := by omega
  have el : (i : Int) ≤ (n : Int) := by omega
  have ew : IntKind.i64.wrap ((i : Int) + 1) = (i : Int) + 1 := IntWalk.i64_in _ (by omega)
  go_still_tail 8, (by kernel_rfl)
  clear ew e0 et el
  refine wpList_value rfl _ _ (exec_copy rfl rfl rfl (H2.out _)) ?_
  go_wp2
  go_ret
  have hN := HN.out
  subst hN
  refine ⟨_, rfl, ?_, ?_, ?_⟩
  · refine ⟨by simp; omega, .inr ⟨w.heap.size, c2, _, rfl, setRow_heap (w := (w2.setRow w.heap.size cur3).drew) _ _ _ _ _ H4.out, hc2, HM.out, ?_, ?_⟩⟩
    · have h1 := HL.out; have h2 := HS.out; have h3 := HD.out
      simp; omega
    · have h3 := H3.out
      have hF := HF.out
      rw [h3]
      simpa using hF
  · have hF := H5.out
    exact ((hF.mono (fun _ _ e => e.elim)).setRow _ _ (.inl (Nat.le_refl _))).drew.setRow _ _ (.inl (Nat.le_refl _))
  · intro k hk
    simp [Value.ownBlock] at hk
    exact .inr (by omega)


theorem insBT : SliceT Tryz.prog 59 100 (.slice none 0 0) 1 24 := ⟨by kernel_rfl, by kernel_rfl, rfl, by decide⟩
theorem insBV : SliceT Tryz.prog 59 100 (.slice none 0 0) 1 24 := ⟨by kernel_rfl, by kernel_rfl, rfl, by decide⟩

set_option maxRecDepth 100000 in
set_option maxHeartbeats 1000000 in
/-- at the end -/
theorem insB_end (w : World) (g c : Nat) (cur : Array Value) (xs : List Value) (vb : Nat) (x : Value) (n : Nat) (hn : n = xs.length)
    (hg : w.heap[g]? = some (.cells cur 100 (0, 0))) (hnc : n ≤ c) (hcm : c ≤ maxLen) (hcs : c ≤ cur.size) (hx : cur.toList.take n = xs)
    (hv : w.heap[vb]? = some (.cells #[x] 100 (0, 0))) (hox : x.oneCell' = true) (hb : n < 1099511627776) :
    Calls Tryz.prog 117 #[.slice (some ⟨g, 0, none⟩) n c, .int .i64 n, .slice (some ⟨vb, 0, none⟩) 1 1] w (RetIns w 100 g n x xs) := by
  have hown : Own w 100 1 (.slice (some ⟨g, 0, none⟩) n c) n xs := ⟨by omega, .inr ⟨g, c, cur, rfl, hg, hnc, hcm, by omega, by simpa using hx⟩⟩
  have hnews := cells_one hv
  have hmx : n + 1 ≤ maxLen := by unfold maxLen; omega
  have HX : Hid (n = xs.length) := hn
  have hcm' : c ≤ 9223372036854775807 := hcm
  clear hx hv hcs hcm hn hg
  go_enter Tryz.func117, Tryz.ntmps117
  go_wp2_with (at_builtin; refine wpList_append_Own rfl _ _ 59 59 rfl insBT insBV _ n xs rfl hown _ 1 _ [x] rfl (by simp) hnews (by simpa using hox) hmx (by omega) ?_)
  all_goals
    intro v' w' hA
    go_wp2
    go_ret
    have hO := hA.own
    have hX := HX.out
    subst hX
    exact ⟨_, rfl, by simpa using hO, fr_of_grown hA.grown rfl, fun k hk => by
      rcases hA.block k hk with h | h
      · simp [Value.ownBlock] at h; exact .inl h.symm
      · exact .inr h⟩

set_option maxRecDepth 100000 in
set_option maxHeartbeats 1000000 in
/-- in the midst, where there is no room -/
theorem insB_grow (w : World) (g c : Nat) (cur : Array Value) (xs : List Value) (vb : Nat) (x : Value) (n i : Nat) (hn : n = xs.length) (hi : i < n)
    (hg : w.heap[g]? = some (.cells cur 100 (0, 0))) (hnc : n ≤ c) (hcm : c ≤ maxLen) (_hcs : c ≤ cur.size) (hx : cur.toList.take n = xs) (hroom : c < n + 1)
    (hv : w.heap[vb]? = some (.cells #[x] 100 (0, 0))) (hox : x.oneCell' = true) (hoxs : ∀ u ∈ xs, u.oneCell' = true) (hb : n < 1099511627776) :
    Calls Tryz.prog 117 #[.slice (some ⟨g, 0, none⟩) n c, .int .i64 i, .slice (some ⟨vb, 0, none⟩) 1 1] w (RetIns w 100 g i x xs) := by
  obtain ⟨i0, hi0, hz0, hzs, hzb⟩ := info_parts insBT.info
  have hci : ¬ c = i := by omega
  have hold : (Builtin.firstCells i0.size i (.slice (some ⟨g, 0, none⟩) i c)).run Tryz.prog w.drew = .ok (xs.take i).toArray w.drew := by
    rw [hzs]
    refine run_firstCells_some w.drew 1 i _ i c (xs.take i) (by simp; omega) (fun j v hj => ?_)
    have := cells_from hg xs n 0 hx j v (by rw [List.getElem?_take] at hj; by_cases h : j < i <;> simp [h] at hj; simpa using hj)
    exact this
  obtain ⟨d, hd⟩ : ∃ d, d = n + 1 - i := ⟨_, rfl⟩
  have hid : i + d = n + 1 := by omega
  have hgrow : ∃ c2 w2 cur2, (∀ ty, (Builtin.append_ #[59, 3] ty #[.slice (some ⟨g, 0, none⟩) i c, .int .i64 d]).run Tryz.prog w = .ok (.slice (some ⟨w.heap.size, 0, none⟩) (n + 1) c2) w2) ∧
      n + 1 ≤ c2 ∧ c2 ≤ maxLen ∧ w2.heap[w.heap.size]? = some (.cells cur2 100 (0, 0)) ∧ (∃ zs, cur2.toList = xs.take i ++ zs) ∧ c2 ≤ cur2.size ∧ Fr (fun _ => False) w w2 := by
    have hge := grownCap_ge w (n + 1) c 100
    have hcm2 := grownCap_le_maxLen w (n + 1) c 100 (by unfold maxLen; omega)
    refine ⟨grownCap w (n + 1) c 100, _, (xs.take i).toArray ++ Builtin.zeroCells (Value.cells (.slice none 0 0)) d ++ Builtin.zeroCells (Value.cells (.slice none 0 0)) (grownCap w (n + 1) c 100 - (n + 1)), fun ty => ?_, hge, hcm2, heap_alloc_new w.drew _, ⟨(Builtin.zeroCells (Value.cells (.slice none 0 0)) d ++ Builtin.zeroCells (Value.cells (.slice none 0 0)) (grownCap w (n + 1) c 100 - (n + 1))).toList, ?_⟩, ?_, ((Fr.refl _ w).drew).alloc _⟩
    · have := Lib.run_append_grow_zeros w 59 3 ty 100 i0 _ .i64 .i64 insBT.und (by kernel_rfl) hi0 hz0 _ i c (xs.take i) hold d (by omega) (by omega) (by omega) (by omega) (by rw [hzb]; omega) (by rw [hzb]; exact growslice_fits (by omega) (by omega))
      rw [hid] at this
      exact this
    · simp only [Array.toList_append, List.append_assoc]
    · simp only [Array.size_append, List.size_toArray, size_zeroCells, List.length_take]
      have : (Value.cells (.slice none 0 0)).size = 1 := rfl
      rw [this]; omega
  obtain ⟨c2, w2, cur2, hrun, hc2, hc2m, hg2, ⟨zs, hz2⟩, hcs2, hf2⟩ := hgrow
  have hd' : ((n : Int) + 1 - (i : Int)) = (d : Int) := by omega
  have hvw : vb < w.heap.size := lt_of_at hv
  have hgw : g < w.heap.size := lt_of_at hg
  have hl2 : n + 1 ≤ cur2.size := by omega
  have hl2' : n + 1 ≤ cur2.toList.length := hl2
  -- the first copy
  have hcp1 : ∀ ty, (Builtin.copy_ #[59, 59] ty #[.slice (some ⟨w.heap.size, i, none⟩) (n + 1 - i) (c2 - i), .slice (some ⟨vb, 0, none⟩) 1 1]).run Tryz.prog w2 = _ := fun ty =>
    run_copyT insBT ty [x] hg2 (by show 1 = Nat.min 1 _; simp only [Nat.min_def]; split <;> omega) (cells_one (hf2.at hv id)) (by simp; omega) (by simpa using hox)
  obtain ⟨cur3, hcur3⟩ : ∃ cur3 : Array Value, cur3 = (cur2.toList.take i ++ [x] ++ cur2.toList.drop (i + [x].length)).toArray := ⟨_, rfl⟩
  rw [← hcur3] at hcp1
  have hl3 : cur3.size = cur2.size := by rw [hcur3]; simp; omega
  have hg3 : (w2.setRow w.heap.size cur3).heap[w.heap.size]? = some (.cells cur3 100 (0, 0)) := setRow_heap _ _ _ _ _ _ hg2
  have hgo3 : (w2.setRow w.heap.size cur3).heap[g]? = some (.cells cur 100 (0, 0)) := by rw [setRow_other _ _ _ _ (by omega)]; exact hf2.at hg id
  have hld : (xs.drop i).length = n - i := by simp; omega
  -- the second copy
  have hcp2 : ∀ ty, (Builtin.copy_ #[59, 59] ty #[.slice (some ⟨w.heap.size, i + 1, none⟩) (n - i) (c2 - (i + 1)), .slice (some ⟨g, i, none⟩) (n - i) (c - i)]).run Tryz.prog (w2.setRow w.heap.size cur3).drew = _ := fun ty =>
    run_copyT (w := (w2.setRow w.heap.size cur3).drew) insBT ty (xs.drop i) hg3 (by rw [hld]; simp only [Nat.min_def]; split <;> omega) (cells_from (w := (w2.setRow w.heap.size cur3).drew) hgo3 xs n i hx) (by rw [hld]; omega) (fun u hu => hoxs u (List.mem_of_mem_drop hu))
  have hfin := ins_grow xs zs x i (by omega)
  rw [← hz2] at hfin
  have HR := Lib.hid hrun
  have H1 := Lib.hid hcp1
  have H2 := Lib.hid hcp2
  have HF := Lib.hid hfin
  have H3 := Lib.hid hcur3
  have H4 := Lib.hid hg3
  have H5 := Lib.hid hf2
  have HN := Lib.hid hn
  have HL := Lib.hid hl3
  have HS := Lib.hid hcs2
  have hin : i ≤ n := by omega
  have hcm' : c ≤ 9223372036854775807 := hcm
  have hcm2' : c2 ≤ 9223372036854775807 := hc2m
  have hci2 : ¬ c2 = i := by omega
  have hci3 : ¬ c2 = i + 1 := by omega
  have HM := Lib.hid hc2m
  have HD := Lib.hid hld
  clear hold hrun hid hn hx hg hv hi0 hz0 hzs hzb hd _hcs hcm hoxs hcp1 hcp2 hfin hcur3 hl3 hg3 hgo3 hf2 hg2 hz2 hl2 hl2' hld hc2m hcs2 hgw hvw
  go_enter Tryz.func117, Tryz.ntmps117
  go_wp2_with (first | (at_builtin; refine wpList_value rfl _ _ (exec_append rfl rfl rfl (HR.out _)) ?_) | (refine wpList_value (o := ⟨some 45, _, _, _, _, _⟩) rfl _ _ (exec_copy rfl rfl rfl (H1.out _)) ?_))
  have e0 : 0 ≤ (i : Int) + 1 := by omega
  have et : ((i : Int) + 1).toNat = i + 1 := by omega
  have el : (i : Int) ≤ (n : Int) := by omega
  have ew : IntKind.i64.wrap ((i : Int) + 1) = (i : Int) + 1 := IntWalk.i64_in _ (by omega)
  go_still_tail 8, (by kernel_rfl)
  clear ew e0 et el
  refine wpList_value rfl _ _ (exec_copy rfl rfl rfl (H2.out _)) ?_
  go_wp2
  go_ret
  have hN := HN.out
  subst hN
  refine ⟨_, rfl, ?_, ?_, ?_⟩
  · refine ⟨by simp; omega, .inr ⟨w.heap.size, c2, _, rfl, setRow_heap (w := (w2.setRow w.heap.size cur3).drew) _ _ _ _ _ H4.out, hc2, HM.out, ?_, ?_⟩⟩
    · have h1 := HL.out; have h2 := HS.out; have h3 := HD.out
      simp; omega
    · have h3 := H3.out
      have hF := HF.out
      rw [h3]
      simpa using hF
  · have hF := H5.out
    exact ((hF.mono (fun _ _ e => e.elim)).setRow _ _ (.inl (Nat.le_refl _))).drew.setRow _ _ (.inl (Nat.le_refl _))
  · intro k hk
    simp [Value.ownBlock] at hk
    exact .inr (by omega)


end Go.Proofs.YtnblhjndngpbnaaGreat
