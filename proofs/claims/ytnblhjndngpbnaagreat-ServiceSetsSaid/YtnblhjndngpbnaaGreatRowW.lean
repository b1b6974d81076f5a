/- What is proved here: cell.SetRow and Next, and the reference's own: a row is written; a number is one more. Their conditions: numbers from nought to 2^63, sizes. -/
import Derived.Test.YtnblhjndngpbnaaGreatCell
namespace Go.Proofs.YtnblhjndngpbnaaGreat
open Go.RowKit

/-- A row's bytes. -/
def rowBy (l : List Int) : List UInt8 := l.flatMap fun n => be8 n.toNat
def rowB (l : List Int) : ByteArray := ⟨(rowBy l).toArray⟩
theorem rowBy_len (l : List Int) : (rowBy l).length = 8 * l.length := by
  unfold rowBy
  induction l with
  | nil => rfl
  | cons x l ih => simp only [List.flatMap_cons, List.length_cons, List.length_append, be8_len, ih]; omega
theorem rowBy_snoc (l : List Int) (n : Int) : rowBy (l ++ [n]) = rowBy l ++ be8 n.toNat := by simp [rowBy]
theorem numsL_row : ∀ (l : List Int), (∀ n ∈ l, 0 ≤ n ∧ n < 9223372036854775808) → numsL (rowBy l) = some (l.map (·.toNat))
  | [], _ => rfl
  | n :: l, h => by
    have hn := h n (by simp)
    have e : rowBy (n :: l) = be8 n.toNat ++ rowBy l := by simp [rowBy]
    have h8 : (be8 n.toNat).length = 8 := rfl
    rw [e, numsL_step _ (by rw [List.length_append, h8]; omega), List.take_append_of_le_length (by omega), List.take_of_length_le (by omega), List.drop_append_of_le_length (by omega), List.drop_of_length_le (by omega), List.nil_append, numsL_row l fun m hm => h m (by simp [hm])]
    have h2 := numsL_numB n.toNat (by omega)
    rw [numB_list, numsL_step _ (by omega), List.take_of_length_le (by omega), List.drop_of_length_le (by omega)] at h2
    split at h2
    · next hb =>
      simp [numsL] at h2
      rw [if_pos hb, h2]; rfl
    · cases h2
theorem rowOf_row (l : List Int) (h : ∀ n ∈ l, 0 ≤ n ∧ n < 9223372036854775808) : rowOf (rowB l) = l.map (·.toNat) := by
  unfold rowOf
  rw [show (rowB l).data.toList = rowBy l by simp [rowB], numsL_row l h]; rfl
theorem rowB_ne {l : List Int} (h : l ≠ []) : rowB l ≠ emptyB := fun e => by
  have := congrArg (fun b : ByteArray => b.data.toList) e
  have h2 : rowBy l = [] := by simpa [rowB, emptyB] using this
  have h3 := rowBy_len l
  rw [h2] at h3
  exact h (List.eq_nil_of_length_eq_zero (by simp at h3; omega))

/-- A row in the making. -/
def RowTo (l : List Int) (w : World) (k : Nat) (wr : World) : Prop := k ≤ l.length ∧ IsB wr w.heap.size w.heap.size (rowBy (l.take k)) ∧ Below w.heap.size w wr

set_option maxRecDepth 100000 in
set_option maxHeartbeats 2000000 in
theorem setRow_any (w : World) (b : Nat) (s : St) (L : List Nat) (key : ByteArray) (v : Value) (l : List Int) (h : SRep w b s L) (hb : s.size < 1000000000000) (hv : IntsAt w v l) (hl : l.length < 1000000000) (hne : l ≠ []) (hr : ∀ n ∈ l, 0 ≤ n ∧ n < 9223372036854775808) :
    Calls Tryz.prog 82 #[.pointer (some ⟨b, 0, none⟩), .string key, v] w (RetSt w b L (.tuple #[]) (s.put key (rowB l))) := by
  obtain ⟨ad, c, hve⟩ : ∃ ad c, v = .slice ad l.length c := by
    rcases hv with ⟨rfl, rfl⟩ | ⟨a, c, h1, _⟩
    · exact ⟨none, 0, rfl⟩
    · exact ⟨some a, c, h1⟩
  have HC : Hid (∀ wr k (n : Int), RowTo l w k wr → l[k]? = some n → ∃ a, ad = some a ∧ wr.cell? (a.add k) = some (.int .i64 n)) := fun wr k n hb0 hk => by
    have hb := hb0.2.2
    rcases hv with ⟨_, rfl⟩ | ⟨a, c', h1, h3⟩
    · simp at hk
    · have : ad = some a := by rw [hve] at h1; cases h1; rfl
      exact ⟨a, this, by rw [hb.cell (p := a.add k) (World.block_lt_of_cell? w _ (h3 k n hk))]; exact h3 k n hk⟩
  subst hve
  clear hv
  have hB0 : IsB (w.alloc (.cells #[.pointer none, .slice none 0 0] 105)) w.heap.size w.heap.size [] :=
    .inl ⟨Nat.le_refl _, _, heap_alloc_new w _, ⟨by simp [Lib.byteCells], .inl ⟨rfl, rfl⟩⟩, by simp [Value.ownBlock]⟩
  have H0 : Hid (RowTo l w 0 (w.alloc (.cells #[.pointer none, .slice none 0 0] 105))) := ⟨by omega, by simpa [rowBy] using hB0, (Below.refl _ w).alloc (Nat.le_refl _) _⟩
  have HN : Hid (∀ wr k, RowTo l w k wr → ∀ n : Nat, l[k]? = some (n : Int) → Calls Tryz.prog 70 #[.int .i64 n] wr fun e w' => e = .returned (.string (numB n)) ∧ RowTo l w k w') := fun wr k hk n hn => by
    have hn2 := hr _ (List.mem_of_getElem? hn)
    refine (num_any n wr (by omega)).mono fun e w' ⟨he, hb⟩ => ⟨he, hk.1, isB_below hk.2.1 hb, hk.2.2.trans (hb.mono hk.2.2.size)⟩
  have HS : Hid (∀ wr k, RowTo l w k wr → ∀ n : Nat, l[k]? = some (n : Int) → Calls Tryz.prog 69 #[.pointer (some ⟨w.heap.size, 0, none⟩), .string (numB n)] wr fun e w' => e = .returned (.tuple #[.int .i64 8, .nilIface]) ∧ RowTo l w (k + 1) w') := fun wr k hk n hn => by
    have hkl : k < l.length := (List.getElem?_eq_some_iff.1 hn).1
    have hln : (rowBy (l.take k)).length + (numB n).size < 1000000000000 := by
      rw [rowBy_len, show (numB n).size = 8 from rfl, List.length_take]; omega
    refine (writeStr_any w.heap.size w.heap.size _ (numB n) wr hk.2.1 hln (by rw [show (numB n).size = 8 from rfl]; omega) hk.2.2.size).mono fun e w' ⟨he, h1, h2⟩ => ⟨he, by omega, ?_, hk.2.2.trans h2⟩
    rw [take_one_more l k _ hn, rowBy_snoc]
    exact h1
  have HT : Hid (∀ wr, RowTo l w l.length wr → Calls Tryz.prog 71 #[.pointer (some ⟨w.heap.size, 0, none⟩)] wr fun e w' => e = .returned (.string (rowB l)) ∧ Below w.heap.size w w') := fun wr hk => by
    obtain ⟨_, h2, h3⟩ := hk
    rw [List.take_length] at h2
    exact (string_any w.heap.size w.heap.size _ wr h2 (fun e => by
      have := rowBy_len l
      rw [e] at this
      exact hne (List.eq_nil_of_length_eq_zero (by simp at this; omega)))).mono fun e w' ⟨he, hb⟩ => ⟨he, h3.trans hb⟩
  have HP : Hid (∀ w1, Below w.heap.size w w1 → Calls Tryz.prog 83 #[.pointer (some ⟨b, 0, none⟩), .string key, .string (rowB l)] w1 fun e w' => e = .returned (.tuple #[]) ∧ RetSt w b L (.tuple #[]) (s.put key (rowB l)) e w') := fun w1 h1 =>
    (putG_any w1 b s L key (rowB l) (h.fr (Fr.of_below h1 (fun _ => False)) (fun _ _ => id)) hb).mono fun e w' h2 => ⟨h2.1, h2.of_below h1⟩
  have hget : ∀ k, k < l.length → ∃ n : Nat, l[k]? = some (n : Int) := fun k hk => ⟨(l[k]).toNat, by
    have := hr l[k] (List.getElem_mem hk)
    rw [List.getElem?_eq_getElem hk]
    congr 1; omega⟩
  have HGET := Lib.hid hget
  have hln : (l.length : Int) < 9223372036854775807 := by omega
  clear hB0 hget hr h hb hne
  generalize hm : l.length = m at *
  generalize rowB l = rb at *
  generalize hKT : RowTo l w = KT at *
  generalize RetSt w b L (.tuple #[]) (s.put key rb) = R at *
  clear hKT
  have HM := Lib.hid hm
  clear hm
  go_enter Tryz.func82, Tryz.ntmps82
  go_wp2_with fail
  go_loopw [11] (fun i wr => ∃ k : Nat, i = .int .i64 k ∧ k ≤ m ∧ KT k wr) (fun i _ => m - (intOf i).toNat)
  case atStart => exact ⟨0, rfl, by omega, H0.out⟩
  case round =>
    obtain ⟨k, rfl, hk, hN⟩ := hrel
    have HK := Lib.hid hN
    clear hN H0
    by_cases hlt : k < m
    · obtain ⟨n, hn⟩ := HGET.out k hlt
      obtain ⟨a, rfl, hc⟩ := HC.out wr k n HK.out hn
      have HNk := Lib.hid hn
      have hd : decide ((n : Int) < 0) = false := by simp
      clear hn
      go_wp2_with fail
      refine (HN.out wr k HK.out n HNk.out).mono ?_
      rintro e w1 ⟨rfl, hK1⟩
      have HK1 := Lib.hid hK1
      clear hK1
      go_wp2_with fail
      refine (HS.out w1 k HK1.out n HNk.out).mono ?_
      rintro e w2 ⟨rfl, hK2⟩
      have HK2 := Lib.hid hK2
      clear hK2
      go_wp2_with fail
      go_roundw
      case rel => exact ⟨k + 1, by go_num, by omega, HK2.out⟩
      case measure => simp [intOf]; omega
    · obtain rfl : k = m := by omega
      have HTT := Lib.hid (HT.out wr HK.out)
      go_wp2_with fail
      refine HTT.out.mono ?_
      rintro e w1 ⟨rfl, hb1⟩
      go_wp2_with fail
      refine (HP.out w1 hb1).mono ?_
      rintro e w2 ⟨rfl, hR⟩
      go_wp2_with fail
      go_end0
      exact hR

/-- The reference's row in the making. -/
def RRowTo (l : List Int) (w : World) (k : Nat) (s : ByteArray) (wr : World) : Prop := k ≤ l.length ∧ s = ⟨(rowBy (l.take k)).toArray⟩ ∧ Below w.heap.size w wr

theorem RRowTo.next {l : List Int} {w : World} {k : Nat} {s : ByteArray} {wr : World} (h : RRowTo l w k s wr) {n : Nat} (hn : l[k]? = some (n : Int)) : RRowTo l w (k + 1) (s ++ numB n) wr := by
  obtain ⟨h1, h2, h3⟩ := h
  have hlt : k < l.length := (List.getElem?_eq_some_iff.1 hn).1
  refine ⟨by omega, ?_, h3⟩
  subst h2
  have hx := take_one_more l k _ hn
  apply ba_ext
  rw [hx, rowBy_snoc]
  rw [show ((⟨(rowBy (List.take k l)).toArray⟩ : ByteArray) ++ numB n).data = (rowBy (List.take k l)).toArray ++ (numB n).data from ByteArray.data_append]
  simp [numB]

set_option maxRecDepth 100000 in
set_option maxHeartbeats 2000000 in
theorem rsetRow_any (w : World) (b : Nat) (s : St) (L : List Nat) (key : ByteArray) (v : Value) (l : List Int) (h : RRep w b s L) (hb : s.size < 1000000000000) (hkey : key ≠ emptyB) (hv : IntsAt w v l) (hl : l.length < 1000000000) (hne : l ≠ []) (hr : ∀ n ∈ l, 0 ≤ n ∧ n < 9223372036854775808) :
    Calls Tryz.prog 64 #[.pointer (some ⟨b, 0, none⟩), .string key, v] w (RetR w b L (.tuple #[]) (s.put key (rowB l))) := by
  obtain ⟨ad, c, hve⟩ : ∃ ad c, v = .slice ad l.length c := by
    rcases hv with ⟨rfl, rfl⟩ | ⟨a, c, h1, _⟩
    · exact ⟨none, 0, rfl⟩
    · exact ⟨some a, c, h1⟩
  have HC : Hid (∀ wr k sb (n : Int), RRowTo l w k sb wr → l[k]? = some n → ∃ a, ad = some a ∧ wr.cell? (a.add k) = some (.int .i64 n)) := fun wr k sb n hb0 hk => by
    have hb := hb0.2.2
    rcases hv with ⟨_, rfl⟩ | ⟨a, c', h1, h3⟩
    · simp at hk
    · have : ad = some a := by rw [hve] at h1; cases h1; rfl
      exact ⟨a, this, by rw [hb.cell (p := a.add k) (World.block_lt_of_cell? w _ (h3 k n hk))]; exact h3 k n hk⟩
  subst hve
  clear hv
  have H0 : Hid (RRowTo l w 0 ⟨#[]⟩ w) := ⟨by omega, by simp [rowBy], Below.refl _ _⟩
  have HN : Hid (∀ wr k sb, RRowTo l w k sb wr → ∀ n : Nat, l[k]? = some (n : Int) → Calls Tryz.prog 79 #[.int .i64 n] wr fun e w' => e = .returned (.string (numB n)) ∧ RRowTo l w (k + 1) (sb ++ numB n) w') := fun wr k sb hk n hn => by
    have hn2 := hr _ (List.mem_of_getElem? hn)
    refine (rnum_any n wr (by omega)).mono fun e w' ⟨he, hb⟩ => ⟨he, ?_⟩
    have := hk.next hn
    exact ⟨this.1, this.2.1, this.2.2.trans (hb.mono this.2.2.size)⟩
  have HT : Hid (∀ wr sb, RRowTo l w l.length sb wr → sb = rowB l ∧ Below w.heap.size w wr) := fun wr sb hk => by
    obtain ⟨_, h2, h3⟩ := hk
    rw [List.take_length] at h2
    exact ⟨h2, h3⟩
  have HP : Hid (∀ w1, Below w.heap.size w w1 → Calls Tryz.prog 86 #[.pointer (some ⟨b, 0, none⟩), .string key, .string (rowB l)] w1 fun e w' => ∃ x : Int, e = .returned (.int .i64 x) ∧ RetR w b L (.tuple #[]) (s.put key (rowB l)) (.returned (.tuple #[])) w') := fun w1 h1 => by
    have e : s.put key (rowB l) = s.set key (rowB l) := by unfold St.put; rw [if_neg (rowB_ne hne), if_neg hkey]
    rw [e]
    exact (rset_any w1 b s L key (rowB l) (h.below h1) hkey hb).mono fun e w' h2 => ⟨0, h2.1, RetR.of_below h1 ⟨rfl, h2.2⟩⟩
  have HSZ : Hid (∀ wr k sb, RRowTo l w k sb wr → sb.size < 10000000000) := fun wr k sb hk => by
    rw [hk.2.1]
    show (rowBy (l.take k)).toArray.size < _
    rw [List.size_toArray, rowBy_len, List.length_take]
    omega
  have hget : ∀ k, k < l.length → ∃ n : Nat, l[k]? = some (n : Int) := fun k hk => ⟨(l[k]).toNat, by
    have := hr l[k] (List.getElem_mem hk)
    rw [List.getElem?_eq_getElem hk]
    congr 1; omega⟩
  have HGET := Lib.hid hget
  have hln : (l.length : Int) < 9223372036854775807 := by omega
  have hemp : (rowB l).toList.isEmpty = false := by
    have h2 := rowBy_len l
    rw [ByteArray.toList_eq]
    show (rowBy l).toArray.toList.isEmpty = false
    cases h3 : rowBy l with
    | nil => rw [h3] at h2; exact absurd (List.eq_nil_of_length_eq_zero (by simp at h2; omega)) hne
    | cons x r => rfl
  clear hget hr h hb hne hkey
  generalize hm : l.length = m at *
  generalize rowB l = rb at *
  generalize hKT : RRowTo l w = KT at *
  generalize RetR w b L (.tuple #[]) (s.put key rb) = R at *
  clear hKT
  have HM := Lib.hid hm
  clear hm
  go_enter Tryz.func64, Tryz.ntmps64
  go_wp2_with fail
  go_loopw [6, 11] (fun sv i wr => ∃ (k : Nat) (sb : ByteArray), i = .int .i64 k ∧ sv = .string sb ∧ k ≤ m ∧ KT k sb wr) (fun _ i _ => m - (intOf i).toNat)
  case atStart => exact ⟨0, _, rfl, rfl, by omega, H0.out⟩
  case round =>
    obtain ⟨k, sb, rfl, rfl, hk, hN⟩ := hrel
    have HK := Lib.hid hN
    have hsz := HSZ.out _ _ _ hN
    clear hN H0
    by_cases hlt : k < m
    · obtain ⟨n, hn⟩ := HGET.out k hlt
      obtain ⟨a, rfl, hc⟩ := HC.out wr k sb n HK.out hn
      have HNk := Lib.hid hn
      have hd : decide ((n : Int) < 0) = false := by simp
      have hsn : (numB n).size = 8 := rfl
      clear hn
      go_wp2_with fail
      refine (HN.out wr k sb HK.out n HNk.out).mono ?_
      rintro e w1 ⟨rfl, hK1⟩
      have HK1 := Lib.hid hK1
      clear hK1
      go_wp2_with fail
      go_roundw
      case rel => exact ⟨k + 1, _, by go_num, rfl, by omega, HK1.out⟩
      case measure => simp [intOf]; omega
    · obtain rfl : k = m := by omega
      obtain ⟨rfl, hb1⟩ := HT.out wr sb HK.out
      have HPP := Lib.hid (HP.out wr hb1)
      clear hb1
      go_wp2_with fail
      refine HPP.out.mono ?_
      rintro e w2 ⟨x, rfl, hR⟩
      go_wp2_with fail
      go_end0
      exact hR

set_option maxRecDepth 100000 in
set_option maxHeartbeats 2000000 in
theorem next_any (w : World) (b : Nat) (s : St) (L : List Nat) (key : ByteArray) (h : SRep w b s L) (hb : s.size < 1000000000000) (hv : (s.val key).size < 1000000000000) (hn : s.int key < 1000000000000) :
    Calls Tryz.prog 51 #[.pointer (some ⟨b, 0, none⟩), .string key] w (RetSt w b L (.int .i64 ((s.int key : Nat) + 1 : Int)) (s.setInt key ((s.int key : Nat) + 1 : Int))) := by
  have HI := Lib.hid (int_at w b s L key h hv)
  have HS : Hid (∀ w1, Below w.heap.size w w1 → Calls Tryz.prog 53 #[.pointer (some ⟨b, 0, none⟩), .string key, .int .i64 ((s.int key : Nat) + 1 : Int)] w1 fun e w' => e = .returned (.tuple #[]) ∧ RetSt w b L (.int .i64 ((s.int key : Nat) + 1 : Int)) (s.setInt key ((s.int key : Nat) + 1 : Int)) (.returned (.int .i64 ((s.int key : Nat) + 1 : Int))) w') := fun w1 h1 =>
    (setIntG_any w1 b s L key _ (by omega) (h.below h1) hb).mono fun e w' h2 => ⟨h2.1, RetSt.of_below h1 ⟨rfl, h2.2⟩⟩
  generalize RetSt w b L (.int .i64 ((s.int key : Nat) + 1 : Int)) (s.setInt key ((s.int key : Nat) + 1 : Int)) = R at *
  clear h hb hv
  generalize s.int key = n at *
  have hd : decide ((n : Int) < 9223372036854775807) = true := decide_eq_true (by omega)
  have hdn : decide (n < 9223372036854775807) = true := decide_eq_true (by omega)
  have hw : wrap64 ((n : Int) + 1) = (n : Int) + 1 := by unfold wrap64; omega
  clear hn
  go_enter Tryz.func51, Tryz.ntmps51
  go_wp2_with (first | (go_at_call 41; refine HI.out.mono ?_; rintro e w1 ⟨rfl, h1⟩) | (go_at_call 53; refine (HS.out _ h1).mono ?_; rintro e w2 ⟨rfl, hR⟩))
  exact hR

set_option maxRecDepth 100000 in
set_option maxHeartbeats 2000000 in
theorem rnext_any (w : World) (b : Nat) (s : St) (L : List Nat) (key : ByteArray) (h : RRep w b s L) (hb : s.size < 1000000000000) (hv : (s.val key).size < 1000000000000) (hn : s.int key < 1000000000000) :
    Calls Tryz.prog 61 #[.pointer (some ⟨b, 0, none⟩), .string key] w (RetR w b L (.int .i64 ((s.int key : Nat) + 1 : Int)) (s.setInt key ((s.int key : Nat) + 1 : Int))) := by
  have HI := Lib.hid (rint_at w b s L key h hv hb)
  have HS : Hid (∀ w1, Below w.heap.size w w1 → Calls Tryz.prog 59 #[.pointer (some ⟨b, 0, none⟩), .string key, .int .i64 ((s.int key : Nat) + 1 : Int)] w1 fun e w' => e = .returned (.tuple #[]) ∧ RetR w b L (.int .i64 ((s.int key : Nat) + 1 : Int)) (s.setInt key ((s.int key : Nat) + 1 : Int)) (.returned (.int .i64 ((s.int key : Nat) + 1 : Int))) w') := fun w1 h1 =>
    (rsetInt_any w1 b s L key _ (by omega) (h.below h1) hb).mono fun e w' h2 => ⟨h2.1, RetR.of_below h1 ⟨rfl, h2.2⟩⟩
  generalize RetR w b L (.int .i64 ((s.int key : Nat) + 1 : Int)) (s.setInt key ((s.int key : Nat) + 1 : Int)) = R at *
  clear h hb hv
  generalize s.int key = n at *
  have hd : decide ((n : Int) < 9223372036854775807) = true := decide_eq_true (by omega)
  have hdn : decide (n < 9223372036854775807) = true := decide_eq_true (by omega)
  have hw : wrap64 ((n : Int) + 1) = (n : Int) + 1 := by unfold wrap64; omega
  clear hn
  go_enter Tryz.func61, Tryz.ntmps61
  go_wp2_with (first | (go_at_call 43; refine HI.out.mono ?_; rintro e w1 ⟨rfl, h1⟩) | (go_at_call 59; refine (HS.out _ h1).mono ?_; rintro e w2 ⟨rfl, hR⟩))
  exact hR
end Go.Proofs.YtnblhjndngpbnaaGreat
