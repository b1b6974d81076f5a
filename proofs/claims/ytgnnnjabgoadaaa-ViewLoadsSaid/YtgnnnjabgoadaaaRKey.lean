/- What is proved here: the reference's Key of a table and whichever numbers. Its condition: fewer than 10^9 numbers, each below 2^63. -/
import Derived.Test.YtgnnnjabgoadaaaKeyG
import Derived.Test.YtgnnnjabgoadaaaRNum
namespace Go.Proofs.Ytgnnnjabgoadaaa
open Go.RowKit

/-- The reference's key in the making. -/
def RKeyTo (t : Nat) (l : List Int) (w : World) (k : Nat) (s : ByteArray) (wr : World) : Prop := k ≤ l.length ∧ (∀ n ∈ l.take k, ¬ n < 0) ∧ s = ⟨(keyBytes t (l.take k)).toArray⟩ ∧ Below w.heap.size w wr

theorem RKeyTo.next {t : Nat} {l : List Int} {w : World} {k : Nat} {s : ByteArray} {wr : World} (h : RKeyTo t l w k s wr) {n : Nat} (hn : l[k]? = some (n : Int)) : RKeyTo t l w (k + 1) (s ++ numB n) wr := by
  obtain ⟨h1, h2, rfl, h4⟩ := h
  have hkl : k < l.length := (List.getElem?_eq_some_iff.1 hn).1
  refine ⟨by omega, ?_, ?_, h4⟩
  · rw [take_one_more l k _ hn]
    intro m hm
    rcases List.mem_append.1 hm with hm | hm
    · exact h2 m hm
    · rw [List.mem_singleton.1 hm]; omega
  · rw [take_one_more l k _ hn, keyBytes_snoc]
    apply ba_ext
    rw [show ((⟨(keyBytes t (List.take k l)).toArray⟩ : ByteArray) ++ numB n).data = (keyBytes t (List.take k l)).toArray ++ (numB n).data from ByteArray.data_append]
    simp [numB]

theorem conv_one (t : Nat) (ht : t ≤ 255) (w : World) : (convert 36 9 (.slice (some ⟨w.heap.size, 0, none⟩) 1 1)).run Try.prog (w.alloc (.cells #[.int .u8 t] 5)) = .ok (.string ⟨#[UInt8.ofNat t]⟩) (w.alloc (.cells #[.int .u8 t] 5)) := by
  have e : (UInt8.ofNat t).toNat = t := by simp; omega
  have h : Own (w.alloc (.cells #[.int .u8 t] 5)) 5 1 (.slice (some ⟨w.heap.size, 0, none⟩) 1 1) 1 (bytesV [UInt8.ofNat t]) := by
    have := Own.whole (w := w.alloc (.cells #[.int .u8 t] 5)) (e := 5) (size := 1) (g := w.heap.size) (n := 1) (xs := [.int .u8 t]) rfl (heap_alloc_new w _) (by decide)
    simpa [bytesV, e] using this
  exact run_conv_own h

set_option maxRecDepth 100000 in
set_option maxHeartbeats 2000000 in
theorem rkey_any (t : Nat) (ht1 : 1 ≤ t) (ht2 : t ≤ 255) (v : Value) (l : List Int) (w : World) (hv : IntsAt w v l) (hl : l.length < 1000000000) (hr : ∀ n ∈ l, n < 9223372036854775808) :
    Calls Try.prog 52 #[.int .i64 t, v] w fun e w' => e = .returned (.string (keyL t l)) ∧ Below w.heap.size w w' := by
  obtain ⟨ad, c, hve⟩ : ∃ ad c, v = .slice ad l.length c := by
    rcases hv with ⟨rfl, rfl⟩ | ⟨a, c, h1, _⟩
    · exact ⟨none, 0, rfl⟩
    · exact ⟨some a, c, h1⟩
  have HC : Hid (∀ wr k n s, RKeyTo t l w k s wr → l[k]? = some n → ∃ a, ad = some a ∧ wr.cell? (a.add k) = some (.int .i64 n)) := fun wr k n s hb0 hk => by
    have hb := hb0.2.2.2
    rcases hv with ⟨_, rfl⟩ | ⟨a, c', h1, h3⟩
    · simp at hk
    · have : ad = some a := by rw [hve] at h1; cases h1; rfl
      exact ⟨a, this, by rw [hb.cell (p := a.add k) (World.block_lt_of_cell? w _ (h3 k n hk))]; exact h3 k n hk⟩
  subst hve
  clear hv
  have hcv := conv_one t ht2 w
  have H0 : Hid (RKeyTo t l w 0 ⟨#[UInt8.ofNat t]⟩ (w.alloc (.cells #[.int .u8 t] 5))) := ⟨by omega, by simp, by simp [keyBytes], (Below.refl _ w).alloc (Nat.le_refl _) _⟩
  have HN : Hid (∀ wr k s, RKeyTo t l w k s wr → ∀ n : Nat, l[k]? = some (n : Int) → Calls Try.prog 76 #[.int .i64 n] wr fun e w' => e = .returned (.string (numB n)) ∧ RKeyTo t l w (k + 1) (s ++ numB n) w') := fun wr k s hk n hn => by
    have hmem : (n : Int) ∈ l := List.mem_of_getElem? hn
    have hn2 := hr _ hmem
    refine (rnum_any n wr (by omega)).mono fun e w' ⟨he, hb⟩ => ⟨he, ?_⟩
    have := hk.next hn
    exact ⟨this.1, this.2.1, this.2.2.1, this.2.2.2.trans (hb.mono this.2.2.2.size)⟩
  have HT : Hid (∀ wr s, RKeyTo t l w l.length s wr → s = keyL t l ∧ Below w.heap.size w wr) := fun wr s hk => by
    obtain ⟨_, h1, h2, h3⟩ := hk
    rw [List.take_length] at h1 h2
    rw [keyL_pos h1]
    exact ⟨h2, h3⟩
  have HNEG : Hid (∀ wr k s n, RKeyTo t l w k s wr → l[k]? = some n → n < 0 → (⟨#[]⟩ : ByteArray) = keyL t l ∧ Below w.heap.size w wr) := fun wr k s n hk hn h => ⟨(keyL_neg (List.mem_of_getElem? hn) h).symm, hk.2.2.2⟩
  have HSZ : Hid (∀ wr k s, RKeyTo t l w k s wr → s.size < 10000000000) := fun wr k s hk => by
    rw [hk.2.2.1]
    show (keyBytes t (l.take k)).toArray.size < _
    rw [List.size_toArray, keyBytes_len, List.length_take]
    omega
  have hget : ∀ k, k < l.length → ∃ n, l[k]? = some n := fun k hk => ⟨l[k], List.getElem?_eq_getElem hk⟩
  have HGET := Lib.hid hget
  have hln : (l.length : Int) < 9223372036854775807 := by omega
  have d1 : decide ((t : Int) < 1) = false := by simp; omega
  have d2 : decide ((255 : Int) < (t : Int)) = false := by simp; omega
  have ht8 : (t : Int) < 256 := by omega
  clear hget hr
  generalize hm : l.length = m at *
  generalize keyL t l = key at *
  generalize hKT : RKeyTo t l w = KT at *
  clear hKT
  have HM := Lib.hid hm
  clear hm
  go_enter Try.func52, Try.ntmps52
  go_wp2_with fail
  go_loopw [5, 20] (fun s i wr => ∃ (k : Nat) (b : ByteArray), i = .int .i64 k ∧ s = .string b ∧ k ≤ m ∧ KT k b wr) (fun _ i _ => m - (intOf i).toNat)
  case atStart => exact ⟨0, _, rfl, rfl, by omega, H0.out⟩
  case round =>
    obtain ⟨k, b, rfl, rfl, hk, hN⟩ := hrel
    have HK := Lib.hid hN
    have hsz := HSZ.out _ _ _ hN
    clear hN H0
    by_cases hlt : k < m
    · obtain ⟨n, hn⟩ := HGET.out k hlt
      obtain ⟨a, rfl, hc⟩ := HC.out wr k n b HK.out hn
      have HNk := Lib.hid hn
      clear hn
      by_cases hneg : n < 0
      · have hd : decide (n < 0) = true := by simpa using hneg
        have hE := HNEG.out wr k b n HK.out HNk.out hneg
        have HE := Lib.hid hE
        clear hE
        go_wp2
        go_ret
        exact ⟨ret_str HE.out.1, HE.out.2⟩
      · obtain ⟨n, rfl⟩ := Int.eq_ofNat_of_zero_le (Int.not_lt.1 hneg)
        have hd : decide ((n : Int) < 0) = false := by simp
        clear hneg
        go_wp2_with fail
        refine (HN.out wr k b HK.out n HNk.out).mono ?_
        rintro e w2 ⟨rfl, hK2⟩
        have HK2 := Lib.hid hK2
        clear hK2 HSZ
        have hs8 : (numB n).size = 8 := rfl
        go_wp2_with fail
        refine ⟨⟨k + 1, _, ?_, rfl, ?_, HK2.out⟩, ?_⟩
        · go_num
        · omega
        · simp [intOf]; omega
    · obtain rfl : k = m := by omega
      have hE := HT.out _ _ HK.out
      have HE := Lib.hid hE
      clear hE
      go_wp2
      go_ret
      exact ⟨ret_str HE.out.1, HE.out.2⟩
end Go.Proofs.Ytgnnnjabgoadaaa
