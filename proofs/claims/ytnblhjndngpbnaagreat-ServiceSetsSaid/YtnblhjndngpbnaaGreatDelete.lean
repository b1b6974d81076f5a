/- What is proved here: slices.Delete of one element out of a slice of the program's own: the elements without it, at the head of the same block; nothing else changes. -/
import Derived.Test.YtnblhjndngpbnaaGreatInsert
namespace Go.Proofs.YtnblhjndngpbnaaGreat
open Go.RowKit

theorem del_list {A : Type} (cur xs : List A) (z : A) (m i : Nat) (hi : i < xs.length) (hc : cur.take xs.length = xs) (_hm : m = 1) :
    (((cur.take i ++ xs.drop (i + 1) ++ cur.drop (i + (xs.drop (i + 1)).length)).take (xs.length - 1) ++ List.replicate m z ++ (cur.take i ++ xs.drop (i + 1) ++ cur.drop (i + (xs.drop (i + 1)).length)).drop (xs.length - 1 + m)).take (xs.length - 1)) = xs.take i ++ xs.drop (i + 1) := by
  have hl : xs.length ≤ cur.length := by have := congrArg List.length hc; simp at this; omega
  have h1 : (cur.take i ++ xs.drop (i + 1) ++ cur.drop (i + (xs.drop (i + 1)).length)).take (xs.length - 1) = xs.take i ++ xs.drop (i + 1) := by
    rw [List.take_append_of_le_length (by simp; omega), List.take_of_length_le (by simp; omega)]
    congr 1
    rw [← hc, List.take_take]; congr 1; omega
  rw [h1, List.append_assoc, List.take_append_of_le_length (by simp; omega), List.take_of_length_le (by simp; omega)]

/-- A slice of the program's own with one element less. -/
structure Deleted (w : World) (e : TypeId) (g c i : Nat) (xs : List Value) (v' : Value) (w' : World) : Prop where
  val : v' = .slice (some ⟨g, 0, none⟩) (xs.length - 1) c
  own : Own w' e 1 v' (xs.length - 1) (xs.take i ++ xs.drop (i + 1))
  fr : Fr (· = g) w w'

def RetDel (w : World) (e : TypeId) (g c i : Nat) (xs : List Value) (en : Ending) (w' : World) : Prop := ∃ v', en = .returned v' ∧ Deleted w e g c i xs v' w'

set_option maxRecDepth 100000 in
set_option maxHeartbeats 1000000 in
theorem delK_any (w : World) (g c : Nat) (cur : Array Value) (xs : List Value) (n i : Nat) (hn : n = xs.length) (hi : i < n)
    (hg : w.heap[g]? = some (.cells cur 9 (0, 0))) (hnc : n ≤ c) (hcm : c ≤ maxLen) (hcs : c ≤ cur.size) (hx : cur.toList.take n = xs)
    (hoxs : ∀ u ∈ xs, u.oneCell' = true) :
    Calls Tryz.prog 119 #[.slice (some ⟨g, 0, none⟩) n c, .int .i64 i, .int .i64 (i + 1 : Nat)] w (RetDel w 9 g c i xs) := by
  have hlen : cur.toList.length = cur.size := rfl
  obtain ⟨k, hk⟩ : ∃ k, k = n - 1 := ⟨_, rfl⟩
  have hld : (xs.drop (i + 1)).length = n - (i + 1) := by simp; omega
  have hkn : i + (n - (i + 1)) = k := by omega
  obtain ⟨w2, hw2⟩ : ∃ w2, w2 = w.drew.setRow g (cur.toList.take i ++ xs.drop (i + 1) ++ cur.toList.drop (i + (xs.drop (i + 1)).length)).toArray := ⟨_, rfl⟩
  have hap : ∀ ty ad, (∀ j u, (xs.drop (i + 1))[j]? = some u → w.drew.cell? (ad.add j) = some u) →
      (Builtin.append_ #[100, 100] ty #[.slice (some ⟨g, 0, none⟩) i c, .slice (some ad) (n - (i + 1)) (c - (i + 1))]).run Tryz.prog w.drew = .ok (.slice (some ⟨g, 0, none⟩) k c) w2 := fun ty ad had => by
    have := run_append_roomT (w := w.drew) insKT insKT ty (g := g) (n := i) (cap := c) hg (ad := ad) (m := n - (i + 1)) (c := c - (i + 1)) (xs.drop (i + 1)) (by omega) had (fun u hu => hoxs u (List.mem_of_mem_drop hu)) (by omega) (by rw [hld]; omega)
    rw [hkn] at this
    simp only [Nat.mul_one] at this
    rw [this, hw2]
  have hg2 := setRow_heap w.drew g cur (cur.toList.take i ++ xs.drop (i + 1) ++ cur.toList.drop (i + (xs.drop (i + 1)).length)).toArray 9 (0, 0) hg
  rw [← hw2] at hg2
  have hfr2 : Fr (· = g) w w2 := by rw [hw2]; exact ((Fr.refl _ w).drew).setRow _ _ (.inr rfl)
  obtain ⟨cur2, hc2⟩ : ∃ cur2 : Array Value, cur2 = (cur.toList.take i ++ xs.drop (i + 1) ++ cur.toList.drop (i + (xs.drop (i + 1)).length)).toArray := ⟨_, rfl⟩
  rw [← hc2] at hg2
  have hl2 : cur2.size = cur.size := by rw [hc2]; simp; omega
  obtain ⟨w3, hw3⟩ : ∃ w3, w3 = w2.setRow g (cur2.toList.take k ++ List.replicate (n - k) (Value.string ⟨#[]⟩) ++ cur2.toList.drop (k + (n - k))).toArray := ⟨_, rfl⟩
  have hcl : ∀ ty, (Builtin.clear_ #[100] ty #[.slice (some ⟨g, k, none⟩) (n - k) (c - k)]).run Tryz.prog w2 = .ok (.tuple #[]) w3 := fun ty => by
    rw [hw3]; exact run_clearT (off := k) (n := n - k) insKT rfl rfl ty hg2 (by omega)
  have hg3 := setRow_heap w2 g cur2 (cur2.toList.take k ++ List.replicate (n - k) (Value.string ⟨#[]⟩) ++ cur2.toList.drop (k + (n - k))).toArray 9 (0, 0) hg2
  rw [← hw3] at hg3
  have hfr3 : Fr (· = g) w w3 := by rw [hw3]; exact hfr2.setRow _ _ (.inr rfl)
  have hfin := del_list cur.toList xs (Value.string ⟨#[]⟩) (n - k) i (by omega) (by rw [← hn]; exact hx) (by omega)
  have hout : Own w3 9 1 (.slice (some ⟨g, 0, none⟩) k c) k (xs.take i ++ xs.drop (i + 1)) := by
    refine ⟨by simp; omega, .inr ⟨g, c, _, rfl, hg3, by omega, hcm, ?_, ?_⟩⟩
    · simp; omega
    · rw [hc2]
      subst hk
      subst hn
      simpa using hfin
  have HQ : Hid (RetDel w 9 g c i xs (.returned (.slice (some ⟨g, 0, none⟩) k c)) w3) := ⟨_, rfl, by subst hk; subst hn; exact ⟨rfl, hout, hfr3⟩⟩
  have HC := Lib.hid hcl
  have hkc : ¬ c = k := by omega
  have hkn' : k ≤ n := by omega
  have hkc' : k ≤ c := by omega
  have hni : n ≤ c := hnc
  have hcm' : c ≤ 9223372036854775807 := hcm
  have hne : ((i : Int) == (i : Int) + 1) = false := by rw [beq_eq_false_iff_ne]; omega
  have hic : i ≤ c := by omega
  have hi1 : i + 1 ≤ n := by omega
  have hi2 : (i : Int) + 1 ≤ (n : Int) := by omega
  have hi3 : 0 ≤ (i : Int) + 1 := by omega
  have hi4 : ((i : Int) + 1).toNat = i + 1 := by omega
  by_cases hci : c = i + 1
  · have HA : Hid (∀ ty, (Builtin.append_ #[100, 100] ty #[.slice (some ⟨g, 0, none⟩) i c, .slice (some ⟨g, 0, none⟩) 0 0]).run Tryz.prog w.drew = .ok (.slice (some ⟨g, 0, none⟩) k c) w2) := fun ty => by
      have := hap ty ⟨g, 0, none⟩ (fun j u hj => by rw [List.drop_of_length_le (by omega)] at hj; simp at hj)
      rw [show n - (i + 1) = 0 by omega, show c - (i + 1) = 0 by omega] at this
      exact this
    obtain rfl : c = n := by omega
    clear hap hg hx hn hoxs hlen hld hkn hw2 hg2 hfr2 hc2 hl2 hw3 hcl hg3 hfr3 hfin hout hcs hcm hk
    subst hci
    have hi5 : (i : Int) ≤ (i : Int) + 1 := by omega
    go_enter Tryz.func119, Tryz.ntmps119
    go_wp2
    go_still_tail 6, (by kernel_rfl)
    refine wpList_value rfl _ _ (exec_append rfl rfl rfl (HA.out _)) ?_
    go_wp2_with (refine wpList_value (o := ⟨none, .call _, _, _, _, _⟩) rfl _ _ (exec_clear rfl rfl (HC.out _)) ?_)
    go_ret
    exact HQ.out
  · have HA : Hid (∀ ty, (Builtin.append_ #[100, 100] ty #[.slice (some ⟨g, 0, none⟩) i c, .slice (some ⟨g, i + 1, none⟩) (n - (i + 1)) (c - (i + 1))]).run Tryz.prog w.drew = .ok (.slice (some ⟨g, 0, none⟩) k c) w2) := fun ty => hap ty _ (cells_from (w := w.drew) hg xs n (i + 1) hx)
    clear hap hg hx hn hoxs hlen hld hkn hw2 hg2 hfr2 hc2 hl2 hw3 hcl hg3 hfr3 hfin hout hcs hcm hk
    go_enter Tryz.func119, Tryz.ntmps119
    go_wp2
    go_still_tail 6, (by kernel_rfl)
    refine wpList_value rfl _ _ (exec_append rfl rfl rfl (HA.out _)) ?_
    go_wp2_with (refine wpList_value (o := ⟨none, .call _, _, _, _, _⟩) rfl _ _ (exec_clear rfl rfl (HC.out _)) ?_)
    go_ret
    exact HQ.out

set_option maxRecDepth 100000 in
set_option maxHeartbeats 1000000 in
theorem delB_any (w : World) (g c : Nat) (cur : Array Value) (xs : List Value) (n i : Nat) (hn : n = xs.length) (hi : i < n)
    (hg : w.heap[g]? = some (.cells cur 100 (0, 0))) (hnc : n ≤ c) (hcm : c ≤ maxLen) (hcs : c ≤ cur.size) (hx : cur.toList.take n = xs)
    (hoxs : ∀ u ∈ xs, u.oneCell' = true) :
    Calls Tryz.prog 120 #[.slice (some ⟨g, 0, none⟩) n c, .int .i64 i, .int .i64 (i + 1 : Nat)] w (RetDel w 100 g c i xs) := by
  have hlen : cur.toList.length = cur.size := rfl
  obtain ⟨k, hk⟩ : ∃ k, k = n - 1 := ⟨_, rfl⟩
  have hld : (xs.drop (i + 1)).length = n - (i + 1) := by simp; omega
  have hkn : i + (n - (i + 1)) = k := by omega
  obtain ⟨w2, hw2⟩ : ∃ w2, w2 = w.drew.setRow g (cur.toList.take i ++ xs.drop (i + 1) ++ cur.toList.drop (i + (xs.drop (i + 1)).length)).toArray := ⟨_, rfl⟩
  have hap : ∀ ty ad, (∀ j u, (xs.drop (i + 1))[j]? = some u → w.drew.cell? (ad.add j) = some u) →
      (Builtin.append_ #[59, 59] ty #[.slice (some ⟨g, 0, none⟩) i c, .slice (some ad) (n - (i + 1)) (c - (i + 1))]).run Tryz.prog w.drew = .ok (.slice (some ⟨g, 0, none⟩) k c) w2 := fun ty ad had => by
    have := run_append_roomT (w := w.drew) insBT insBT ty (g := g) (n := i) (cap := c) hg (ad := ad) (m := n - (i + 1)) (c := c - (i + 1)) (xs.drop (i + 1)) (by omega) had (fun u hu => hoxs u (List.mem_of_mem_drop hu)) (by omega) (by rw [hld]; omega)
    rw [hkn] at this
    simp only [Nat.mul_one] at this
    rw [this, hw2]
  have hg2 := setRow_heap w.drew g cur (cur.toList.take i ++ xs.drop (i + 1) ++ cur.toList.drop (i + (xs.drop (i + 1)).length)).toArray 100 (0, 0) hg
  rw [← hw2] at hg2
  have hfr2 : Fr (· = g) w w2 := by rw [hw2]; exact ((Fr.refl _ w).drew).setRow _ _ (.inr rfl)
  obtain ⟨cur2, hc2⟩ : ∃ cur2 : Array Value, cur2 = (cur.toList.take i ++ xs.drop (i + 1) ++ cur.toList.drop (i + (xs.drop (i + 1)).length)).toArray := ⟨_, rfl⟩
  rw [← hc2] at hg2
  have hl2 : cur2.size = cur.size := by rw [hc2]; simp; omega
  obtain ⟨w3, hw3⟩ : ∃ w3, w3 = w2.setRow g (cur2.toList.take k ++ List.replicate (n - k) (Value.slice none 0 0) ++ cur2.toList.drop (k + (n - k))).toArray := ⟨_, rfl⟩
  have hcl : ∀ ty, (Builtin.clear_ #[59] ty #[.slice (some ⟨g, k, none⟩) (n - k) (c - k)]).run Tryz.prog w2 = .ok (.tuple #[]) w3 := fun ty => by
    rw [hw3]; exact run_clearT (off := k) (n := n - k) insBT rfl rfl ty hg2 (by omega)
  have hg3 := setRow_heap w2 g cur2 (cur2.toList.take k ++ List.replicate (n - k) (Value.slice none 0 0) ++ cur2.toList.drop (k + (n - k))).toArray 100 (0, 0) hg2
  rw [← hw3] at hg3
  have hfr3 : Fr (· = g) w w3 := by rw [hw3]; exact hfr2.setRow _ _ (.inr rfl)
  have hfin := del_list cur.toList xs (Value.slice none 0 0) (n - k) i (by omega) (by rw [← hn]; exact hx) (by omega)
  have hout : Own w3 100 1 (.slice (some ⟨g, 0, none⟩) k c) k (xs.take i ++ xs.drop (i + 1)) := by
    refine ⟨by simp; omega, .inr ⟨g, c, _, rfl, hg3, by omega, hcm, ?_, ?_⟩⟩
    · simp; omega
    · rw [hc2]
      subst hk
      subst hn
      simpa using hfin
  have HQ : Hid (RetDel w 100 g c i xs (.returned (.slice (some ⟨g, 0, none⟩) k c)) w3) := ⟨_, rfl, by subst hk; subst hn; exact ⟨rfl, hout, hfr3⟩⟩
  have HC := Lib.hid hcl
  have hkc : ¬ c = k := by omega
  have hkn' : k ≤ n := by omega
  have hkc' : k ≤ c := by omega
  have hni : n ≤ c := hnc
  have hcm' : c ≤ 9223372036854775807 := hcm
  have hne : ((i : Int) == (i : Int) + 1) = false := by rw [beq_eq_false_iff_ne]; omega
  have hic : i ≤ c := by omega
  have hi1 : i + 1 ≤ n := by omega
  have hi2 : (i : Int) + 1 ≤ (n : Int) := by omega
  have hi3 : 0 ≤ (i : Int) + 1 := by omega
  have hi4 : ((i : Int) + 1).toNat = i + 1 := by omega
  by_cases hci : c = i + 1
  · have HA : Hid (∀ ty, (Builtin.append_ #[59, 59] ty #[.slice (some ⟨g, 0, none⟩) i c, .slice (some ⟨g, 0, none⟩) 0 0]).run Tryz.prog w.drew = .ok (.slice (some ⟨g, 0, none⟩) k c) w2) := fun ty => by
      have := hap ty ⟨g, 0, none⟩ (fun j u hj => by rw [List.drop_of_length_le (by omega)] at hj; simp at hj)
      rw [show n - (i + 1) = 0 by omega, show c - (i + 1) = 0 by omega] at this
      exact this
    obtain rfl : c = n := by omega
    clear hap hg hx hn hoxs hlen hld hkn hw2 hg2 hfr2 hc2 hl2 hw3 hcl hg3 hfr3 hfin hout hcs hcm hk
    subst hci
    have hi5 : (i : Int) ≤ (i : Int) + 1 := by omega
    go_enter Tryz.func120, Tryz.ntmps120
    go_wp2
    go_still_tail 6, (by kernel_rfl)
    refine wpList_value rfl _ _ (exec_append rfl rfl rfl (HA.out _)) ?_
    go_wp2_with (refine wpList_value (o := ⟨none, .call _, _, _, _, _⟩) rfl _ _ (exec_clear rfl rfl (HC.out _)) ?_)
    go_ret
    exact HQ.out
  · have HA : Hid (∀ ty, (Builtin.append_ #[59, 59] ty #[.slice (some ⟨g, 0, none⟩) i c, .slice (some ⟨g, i + 1, none⟩) (n - (i + 1)) (c - (i + 1))]).run Tryz.prog w.drew = .ok (.slice (some ⟨g, 0, none⟩) k c) w2) := fun ty => hap ty _ (cells_from (w := w.drew) hg xs n (i + 1) hx)
    clear hap hg hx hn hoxs hlen hld hkn hw2 hg2 hfr2 hc2 hl2 hw3 hcl hg3 hfr3 hfin hout hcs hcm hk
    go_enter Tryz.func120, Tryz.ntmps120
    go_wp2
    go_still_tail 6, (by kernel_rfl)
    refine wpList_value rfl _ _ (exec_append rfl rfl rfl (HA.out _)) ?_
    go_wp2_with (refine wpList_value (o := ⟨none, .call _, _, _, _, _⟩) rfl _ _ (exec_clear rfl rfl (HC.out _)) ?_)
    go_ret
    exact HQ.out

end Go.Proofs.YtnblhjndngpbnaaGreat
