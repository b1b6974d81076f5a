/- What is proved here: (*strings.Builder).WriteString; keys.Key of a table and whichever numbers. Its condition: fewer than 10^9 numbers, each below 2^63. -/
import Derived.Test.YtgnnnjabgoadaaaBuildS
import Derived.Test.YtgnnnjabgoadaaaNum
namespace Go.Proofs.Ytgnnnjabgoadaaa
open Go.RowKit

theorem byteCells_str (s : ByteArray) : Lib.byteCells s.data.toList = Lib.strCells s := rfl

set_option maxRecDepth 100000 in
set_option maxHeartbeats 1000000 in
theorem writeStr_any (B b : Nat) (l : List UInt8) (s : ByteArray) (w : World) (h : IsB w B b l) (hl : l.length + s.size < 1000000000000) (h0 : 0 < l.length + s.size) (hB : B ≤ w.heap.size) :
    Calls Try.prog 59 #[.pointer (some ⟨b, 0, none⟩), .string s] w (RetWr B b (l ++ s.data.toList) w (.tuple #[.int .i64 s.size, .nilIface])) := by
  have HC := Lib.hid (copyCheck_any B b l w h)
  have HP : Hid (∀ w1, IsBU w1 B b l → Below B w w1 → b < w1.heap.size ∧ ∃ v, w1.cell? ⟨b, 1, none⟩ = some v ∧ ∃ g c' w2, (∀ ty, (Builtin.append_ #[36, 9] ty #[v, .string s]).run Try.prog w1 = .ok (.slice (some ⟨g, 0, none⟩) (l.length + s.size) c') w2) ∧
      w2.cell? ⟨b, 1, none⟩ = some v ∧ w2.frozen? ⟨b, 1, none⟩ = false ∧ IsB (w2.setCell ⟨b, 1, none⟩ (.slice (some ⟨g, 0, none⟩) (l.length + s.size) c')) B b (l ++ s.data.toList) ∧ Below B w (w2.setCell ⟨b, 1, none⟩ (.slice (some ⟨g, 0, none⟩) (l.length + s.size) c'))) := fun w1 h1 hb1 => by
    have h1' := h1
    obtain ⟨hBb, v, hbk, ho, hne⟩ := h1
    have hbw := lt_of_at hbk
    have hB1 : B ≤ w1.heap.size := Nat.le_trans hB hb1.size
    refine ⟨hbw, v, by rw [cell_of_row w1 b 1 _ _ _ hbk]; rfl, ?_⟩
    obtain ⟨i, hi, hz0, hz1, hz2⟩ := info_parts (show (Try.prog.info? 5).map (fun i => (i.zero, i.size, i.bytes)) = some (some (.int .u8 0), 1, 1) by kernel_rfl)
    rw [Lib.byteCells_length] at ho
    obtain ⟨v', w2, hr, ho2, hg2, hnil⟩ := Lib.run_append_own_string (P := Try.prog) w1 B 36 9 0 5 i (by kernel_rfl) (by kernel_rfl) hi hz0 hz1 hz2 v l.length (Lib.byteCells l) ho s
      (by unfold maxLen; omega) (by omega) hB1
    obtain ⟨g, c', cur, hv', hgB, hgc, hnc, hcm, hcs, ht⟩ : ∃ g c' cur, v' = .slice (some ⟨g, 0, none⟩) (l.length + s.size) c' ∧ B ≤ g ∧ w2.heap[g]? = some (.cells cur 5 (0, 0)) ∧ l.length + s.size ≤ c' ∧ c' ≤ maxLen ∧ cur.size = c' * 1 ∧ cur.toList.take ((l.length + s.size) * 1) = Lib.byteCells l ++ Lib.strCells s := by
      rcases ho2.2 with ⟨_, h0⟩ | h
      · omega
      · exact h
    subst hv'
    have hgb : g ≠ b := by
      intro e
      subst e
      have hbk2 : w2.heap[g]? = some (.cells #[.pointer (some ⟨g, 0, none⟩), v] 94 (0, 0)) := by
        rw [hg2.block g hbw (fun e => hne e.symm)]; exact hbk
      rw [hgc] at hbk2
      simp at hbk2
    have hb2 : w2.heap[b]? = w1.heap[b]? := hg2.block b hbw (fun e => hne e.symm)
    have hbk2 := hbk
    rw [← hb2] at hbk2
    refine ⟨g, c', w2, fun ty => hr, by rw [cell_of_row w2 b 1 _ _ _ hbk2]; rfl, frozen_of_row w2 b 1 _ _ hbk2, ?_, ?_⟩
    · exact isB_set h1' (by simpa [byteCells_str] using ho2) hb2 (by simpa [Value.ownBlock] using hgb)
    · refine Below.setCell (hb1.grown hg2 hB1 (fun k hk => ?_)) hBb _
      exact (ho.lt k hk).1
  clear h
  go_enter Try.func59, Try.ntmps59
  go_wp2_with fail
  refine HC.out.mono ?_
  rintro e w1 ⟨rfl, hU, hbl⟩
  obtain ⟨hbw, v, hc1, g, c', w2, hr, hc2, hf2, hQ1, hQ2⟩ := HP.out w1 hU hbl
  have HR := Lib.hid hr
  have HQ1 := Lib.hid hQ1
  have HQ2 := Lib.hid hQ2
  clear hr hQ1 hQ2 hU hbl
  go_wp2_with (at_builtin; refine wpList_value rfl _ _ (exec_append rfl rfl rfl (HR.out _)) ?_)
  go_ret2
  exact ⟨rfl, HQ1.out, HQ2.out⟩

theorem addB (a : Addr) (n : Nat) : (a.add n).block = a.block := by unfold Addr.add; split <;> rfl

theorem isB_below {w w' : World} {B b : Nat} {l : List UInt8} (h : IsB w B b l) (hb : Below w.heap.size w w') : IsB w' B b l := by
  have hg : w.grownBy w' none := ⟨hb.os, hb.tape, hb.output, hb.size, fun k hk _ => hb.block k hk⟩
  rcases h with ⟨h1, v, h2, h3, h4⟩ | ⟨h1, v, h2, h3, h4⟩
  · exact .inl ⟨h1, v, by rw [hb.block b (lt_of_at h2)]; exact h2, h3.kept hg (by cases v.ownBlock <;> simp), h4⟩
  · exact .inr ⟨h1, v, by rw [hb.block b (lt_of_at h2)]; exact h2, h3.kept hg (by cases v.ownBlock <;> simp), h4⟩

/-- Ints in a slice that came in. -/
def IntsAt (w : World) (v : Value) (l : List Int) : Prop :=
  (v = .slice none 0 0 ∧ l = []) ∨ ∃ a c, v = .slice (some a) l.length c ∧ ∀ j x, l[j]? = some x → w.cell? (a.add j) = some (.int .i64 x)

theorem IntsAt.below {w w' : World} {v : Value} {l : List Int} (h : IntsAt w v l) (hb : Below w.heap.size w w') : IntsAt w' v l := by
  rcases h with h | ⟨a, c, h1, h3⟩
  · exact .inl h
  · exact .inr ⟨a, c, h1, fun j x hj => by rw [hb.cell (p := a.add j) (World.block_lt_of_cell? w _ (h3 j x hj))]; exact h3 j x hj⟩

/-- The key of a table and numbers: none, where one is below nought. -/
def keyBytes (t : Nat) (l : List Int) : List UInt8 := UInt8.ofNat t :: l.flatMap fun n => be8 n.toNat
def keyL (t : Nat) (l : List Int) : ByteArray := if l.any (fun n => decide (n < 0)) then ⟨#[]⟩ else ⟨(keyBytes t l).toArray⟩

theorem be8_len (n : Nat) : (be8 n).length = 8 := rfl
theorem keyBytes_len (t : Nat) (l : List Int) : (keyBytes t l).length = 1 + 8 * l.length := by
  unfold keyBytes
  induction l with
  | nil => rfl
  | cons x l ih => simp only [List.flatMap_cons, List.length_cons, List.length_append, be8_len] at ih ⊢; omega
theorem keyBytes_snoc (t : Nat) (l : List Int) (n : Int) : keyBytes t (l ++ [n]) = keyBytes t l ++ be8 n.toNat := by simp [keyBytes]
theorem keyL_neg {t : Nat} {l : List Int} {n : Int} (hn : n ∈ l) (h : n < 0) : keyL t l = ⟨#[]⟩ := by
  unfold keyL; rw [if_pos]; exact List.any_eq_true.2 ⟨n, hn, by simpa using h⟩
theorem keyL_pos {t : Nat} {l : List Int} (h : ∀ n ∈ l, ¬ n < 0) : keyL t l = ⟨(keyBytes t l).toArray⟩ := by
  unfold keyL; rw [if_neg]; intro hx; obtain ⟨n, hn, h1⟩ := List.any_eq_true.1 hx; exact h n hn (by simpa using h1)

/-- A key in the making. -/
def KeyTo (t : Nat) (l : List Int) (w : World) (k : Nat) (wr : World) : Prop := k ≤ l.length ∧ (∀ n ∈ l.take k, ¬ n < 0) ∧ IsB wr w.heap.size w.heap.size (keyBytes t (l.take k)) ∧ Below w.heap.size w wr

theorem take_one_more {α : Type} (l : List α) (k : Nat) (x : α) (h : l[k]? = some x) : l.take (k + 1) = l.take k ++ [x] := by
  rw [List.take_add_one, h]; rfl

theorem numB_list (n : Nat) : (numB n).data.toList = be8 n := rfl

set_option maxRecDepth 100000 in
set_option maxHeartbeats 2000000 in
theorem key_any (t : Nat) (ht1 : 1 ≤ t) (ht2 : t ≤ 255) (v : Value) (l : List Int) (w : World) (hv : IntsAt w v l) (hl : l.length < 1000000000) (hr : ∀ n ∈ l, n < 9223372036854775808) :
    Calls Try.prog 35 #[.int .i64 t, v] w fun e w' => e = .returned (.string (keyL t l)) ∧ Below w.heap.size w w' := by
  obtain ⟨ad, c, hve⟩ : ∃ ad c, v = .slice ad l.length c := by
    rcases hv with ⟨rfl, rfl⟩ | ⟨a, c, h1, _⟩
    · exact ⟨none, 0, rfl⟩
    · exact ⟨some a, c, h1⟩
  have HC : Hid (∀ wr k n, KeyTo t l w k wr → l[k]? = some n → ∃ a, ad = some a ∧ wr.cell? (a.add k) = some (.int .i64 n)) := fun wr k n hb0 hk => by
    have hb := hb0.2.2.2
    rcases hv with ⟨_, rfl⟩ | ⟨a, c', h1, h3⟩
    · simp at hk
    · have : ad = some a := by rw [hve] at h1; cases h1; rfl
      exact ⟨a, this, by rw [hb.cell (p := a.add k) (World.block_lt_of_cell? w _ (h3 k n hk))]; exact h3 k n hk⟩
  subst hve
  clear hv
  have htw : (UInt8.ofNat t).toNat = t := by simp; omega
  have hB0 : Hid (∀ w1, w1 = w.alloc (.cells #[.pointer none, .slice none 0 0] 94) → IsB w1 w.heap.size w.heap.size []) := fun w1 hw => by
    subst hw
    exact .inl ⟨Nat.le_refl _, _, heap_alloc_new w _, ⟨by simp [Lib.byteCells], .inl ⟨rfl, rfl⟩⟩, by simp [Value.ownBlock]⟩
  have hb0 : Below w.heap.size w (w.alloc (.cells #[.pointer none, .slice none 0 0] 94)) := (Below.refl _ w).alloc (Nat.le_refl _) _
  have HW := writeByte_any w.heap.size w.heap.size [] (UInt8.ofNat t) (w.alloc (.cells #[.pointer none, .slice none 0 0] 94)) (hB0.out _ rfl) (by simp) (by simp)
  rw [htw] at HW
  have HW := Lib.hid (HW.mono (R' := fun e w' => e = .returned .nilIface ∧ KeyTo t l w 0 w') fun e w' ⟨he, h1, h2⟩ => ⟨he, by omega, by simp, by simpa [keyBytes] using h1, hb0.trans h2⟩)
  have HN : Hid (∀ wr k, KeyTo t l w k wr → ∀ n : Nat, l[k]? = some (n : Int) → Calls Try.prog 57 #[.int .i64 n] wr fun e w' => e = .returned (.string (numB n)) ∧ KeyTo t l w k w') := fun wr k hk n hn => by
    have hmem : (n : Int) ∈ l := List.mem_of_getElem? hn
    have hn2 := hr _ hmem
    refine (num_any n wr (by omega)).mono fun e w' ⟨he, hb⟩ => ⟨he, hk.1, hk.2.1, isB_below hk.2.2.1 hb, hk.2.2.2.trans (hb.mono hk.2.2.2.size)⟩
  have HS : Hid (∀ wr k, KeyTo t l w k wr → ∀ n : Nat, l[k]? = some (n : Int) → Calls Try.prog 59 #[.pointer (some ⟨w.heap.size, 0, none⟩), .string (numB n)] wr fun e w' => e = .returned (.tuple #[.int .i64 8, .nilIface]) ∧ KeyTo t l w (k + 1) w') := fun wr k hk n hn => by
    have hkl : k < l.length := (List.getElem?_eq_some_iff.1 hn).1
    have hln : (keyBytes t (l.take k)).length + (numB n).size < 1000000000000 := by
      rw [keyBytes_len, show (numB n).size = 8 from rfl, List.length_take]; omega
    refine (writeStr_any w.heap.size w.heap.size _ (numB n) wr hk.2.2.1 hln (by rw [show (numB n).size = 8 from rfl]; omega) hk.2.2.2.size).mono fun e w' ⟨he, h1, h2⟩ => ⟨he, by omega, ?_, ?_, hk.2.2.2.trans h2⟩
    · rw [take_one_more l k _ hn]
      intro m hm
      rcases List.mem_append.1 hm with hm | hm
      · exact hk.2.1 m hm
      · rw [List.mem_singleton.1 hm]; omega
    · rw [take_one_more l k _ hn, keyBytes_snoc]
      exact h1
  have HT : Hid (∀ wr, KeyTo t l w l.length wr → Calls Try.prog 60 #[.pointer (some ⟨w.heap.size, 0, none⟩)] wr fun e w' => e = .returned (.string (keyL t l)) ∧ Below w.heap.size w w') := fun wr hk => by
    obtain ⟨_, h1, h2, h3⟩ := hk
    rw [List.take_length] at h1 h2
    rw [keyL_pos h1]
    exact (string_any w.heap.size w.heap.size _ wr h2 (by unfold keyBytes; simp)).mono fun e w' ⟨he, hb⟩ => ⟨he, h3.trans hb⟩
  have HNEG : Hid (∀ wr k n, KeyTo t l w k wr → l[k]? = some n → n < 0 → (⟨#[]⟩ : ByteArray) = keyL t l ∧ Below w.heap.size w wr) := fun wr k n hk hn h => ⟨(keyL_neg (List.mem_of_getElem? hn) h).symm, hk.2.2.2⟩
  have hget : ∀ k, k < l.length → ∃ n, l[k]? = some n := fun k hk => ⟨l[k], List.getElem?_eq_getElem hk⟩
  have HGET := Lib.hid hget
  have hln : (l.length : Int) < 9223372036854775807 := by omega
  have d1 : decide ((t : Int) < 1) = false := by simp; omega
  have d2 : decide ((255 : Int) < (t : Int)) = false := by simp; omega
  clear hB0 hb0 hget hr htw
  generalize hm : l.length = m at *
  generalize keyL t l = key at *
  generalize hKT : KeyTo t l w = KT at *
  clear hKT
  have HM := Lib.hid hm
  clear hm
  go_enter Try.func35, Try.ntmps35
  go_wp2_with fail
  refine HW.out.mono ?_
  rintro e w1 ⟨rfl, hK0⟩
  have HK0 := Lib.hid hK0
  clear hK0
  go_wp2_with fail
  go_loopw [19] (fun i wr => ∃ k : Nat, i = .int .i64 k ∧ k ≤ m ∧ KT k wr) (fun i _ => m - (intOf i).toNat)
  case atStart => exact ⟨0, rfl, by omega, HK0.out⟩
  case round =>
    obtain ⟨k, rfl, hk, hN⟩ := hrel
    have HK := Lib.hid hN
    clear hN HK0
    by_cases hlt : k < m
    · obtain ⟨n, hn⟩ := HGET.out k hlt
      obtain ⟨a, rfl, hc⟩ := HC.out wr k n HK.out hn
      have HNk := Lib.hid hn
      clear hn
      by_cases hneg : n < 0
      · have hd : decide (n < 0) = true := by simpa using hneg
        have hE := HNEG.out wr k n HK.out HNk.out hneg
        have HE := Lib.hid hE
        clear hE
        go_wp2
        go_ret
        exact ⟨ret_str HE.out.1, HE.out.2⟩
      · obtain ⟨n, rfl⟩ := Int.eq_ofNat_of_zero_le (Int.not_lt.1 hneg)
        have hd : decide ((n : Int) < 0) = false := by simp
        clear hneg
        go_wp2_with fail
        refine (HN.out wr k HK.out n HNk.out).mono ?_
        rintro e w2 ⟨rfl, hK2⟩
        have HK2 := Lib.hid hK2
        clear hK2
        go_wp2_with fail
        refine (HS.out w2 k HK2.out n HNk.out).mono ?_
        rintro e w3 ⟨rfl, hK3⟩
        have HK3 := Lib.hid hK3
        clear hK3
        go_wp2
        go_roundw
        case rel => exact ⟨k + 1, by go_num, by omega, HK3.out⟩
        case measure => simp [intOf]; omega
    · obtain rfl : k = m := by omega
      go_wp2_with (go_at_call 60; refine (HT.out _ HK.out).mono ?_; rintro e w' ⟨rfl, hb⟩)
      go_ret
      exact ⟨rfl, hb⟩
end Go.Proofs.Ytgnnnjabgoadaaa
