/- What is proved here: what the comparing functions of strings return, and the two binary searches of the program: the place of a key in a row of keys, and among rows of keys. -/
import Derived.Test.YtgnnnjabgoadaaaPlain
import Derived.Lib.Bytealg
import Derived.Lib.Split
namespace Go.Proofs.Ytgnnnjabgoadaaa
open Go.RowKit

def cmpB (a b : ByteArray) : Int := Lib.compareBytes a.data.toList b.data.toList

theorem compareBytes_lt : ∀ a b : List UInt8, (Lib.compareBytes a b < 0 ↔ a < b) ∧ (Lib.compareBytes a b = 0 ↔ a = b)
  | [], [] => by simp [Lib.compareBytes]
  | [], _ :: _ => by simp [Lib.compareBytes]
  | _ :: _, [] => by simp [Lib.compareBytes]
  | a :: ar, b :: br => by
    have ih := compareBytes_lt ar br
    simp only [Lib.compareBytes, List.cons_lt_cons_iff]
    by_cases h1 : a < b
    · have h2 : a ≠ b := fun e => by subst e; exact absurd h1 (Nat.lt_irrefl _)
      simp [h1, h2]
    · by_cases h2 : b < a
      · have h3 : a ≠ b := fun e => by subst e; exact absurd h2 (Nat.lt_irrefl _)
        simp [h1, h2, h3]
      · have h3 : a = b := UInt8.le_antisymm (UInt8.not_lt.1 h2) (UInt8.not_lt.1 h1)
        subst h3
        simp [h1, ih]

theorem cmpB_lt (a b : ByteArray) : cmpB a b < 0 ↔ KLt a b := (compareBytes_lt _ _).1
theorem cmpB_eq (a b : ByteArray) : cmpB a b = 0 ↔ a = b := ⟨fun h => ba_ext ((compareBytes_lt _ _).2.1 h), fun h => (compareBytes_lt _ _).2.2 (by rw [h])⟩
theorem cmpB_range (a b : ByteArray) : -1 ≤ cmpB a b ∧ cmpB a b ≤ 1 := by
  have : ∀ a b : List UInt8, -1 ≤ Lib.compareBytes a b ∧ Lib.compareBytes a b ≤ 1 := by
    intro a
    induction a with
    | nil => intro b; cases b <;> simp [Lib.compareBytes]
    | cons x a ih =>
      intro b
      cases b with
      | nil => simp [Lib.compareBytes]
      | cons y b =>
        simp only [Lib.compareBytes]
        split
        · omega
        · split
          · omega
          · exact ih b
  exact this _ _

set_option maxHeartbeats 400000 in
theorem compareString_any (a b : ByteArray) (w : World) : Calls Try.prog 103 #[.string a, .string b] w fun e w' => e = .returned (.int .i64 (cmpB a b)) ∧ w = w' := by
  have hc : ∀ w : World, (callFunc 108 #[.string a, .string b]).run Try.prog w = .ok (.value (.int .i64 (cmpB a b))) w := fun w => by
    rw [run_callFunc_extern Try.func108 (by kernel_rfl) (by kernel_rfl) (by kernel_rfl) (e := Extern.BytealgCompare.compare) (by kernel_rfl), Lib.run_compareString]; rfl
  go_enter Try.func103, Try.ntmps103
  go_wp2
  go_ret
  exact ⟨rfl, rfl⟩

set_option maxHeartbeats 400000 in
theorem compare_any (a b : ByteArray) (w : World) : Calls Try.prog 91 #[.string a, .string b] w fun e w' => e = .returned (.int .i64 (cmpB a b)) ∧ w = w' := by
  go_enter Try.func91, Try.ntmps91
  go_wp2_with (go_at_call 103; refine (compareString_any _ _ _).mono ?_; rintro e w' ⟨rfl, rfl⟩)
  go_ret
  exact ⟨rfl, rfl⟩

set_option maxHeartbeats 400000 in
theorem cmpIsNaN_any (x : ByteArray) (w : World) : Calls Try.prog 105 #[.string x] w fun e w' => e = .returned (.bool false) ∧ w = w' := by
  go_enter Try.func105, Try.ntmps105
  go_wp2
  go_ret
  exact ⟨by simp, rfl⟩

set_option maxHeartbeats 400000 in
theorem slicesIsNaN_any (x : ByteArray) (w : World) : Calls Try.prog 98 #[.string x] w fun e w' => e = .returned (.bool false) ∧ w = w' := by
  go_enter Try.func98, Try.ntmps98
  go_wp2
  go_ret
  exact ⟨by simp, rfl⟩

set_option maxHeartbeats 400000 in
theorem cmpLess_any (a b : ByteArray) (w : World) : Calls Try.prog 97 #[.string a, .string b] w fun e w' => e = .returned (.bool (decide (KLt a b))) ∧ w = w' := by
  go_enter Try.func97, Try.ntmps97
  go_wp2_with (go_at_call 105; refine (cmpIsNaN_any _ _).mono ?_; rintro e w' ⟨rfl, rfl⟩)
  go_ret
  exact ⟨by rw [← bytesLess_KLt]; rfl, rfl⟩

/-- b begins a. -/
def isPre (b a : ByteArray) : Bool := b.data.toList.isPrefixOf a.data.toList

theorem size_list (b : ByteArray) : b.size = b.data.toList.length := rfl

theorem extract_pre (a b : ByteArray) : ((a.extract 0 b.size).toList == b.toList) = isPre b a := by
  rw [ByteArray.toList_eq, ByteArray.toList_eq, Lib.extract_from_zero, Bool.eq_iff_iff]
  unfold isPre
  rw [beq_iff_eq, List.isPrefixOf_iff_prefix, size_list, List.prefix_iff_eq_take]
  exact eq_comm

theorem isPre_short {a b : ByteArray} (h : ¬ b.size ≤ a.size) : isPre b a = false := by
  unfold isPre
  rw [Bool.eq_false_iff]
  intro e
  exact h (List.isPrefixOf_iff_prefix.1 e).length_le

set_option maxHeartbeats 400000 in
theorem hasPrefixI_any (a b : ByteArray) (w : World) : Calls Try.prog 92 #[.string a, .string b] w fun e w' => e = .returned (.bool (isPre b a)) ∧ w = w' := by
  by_cases h : b.size ≤ a.size
  · have h2 : decide ((b.size : Int) ≤ (a.size : Int)) = true := by simpa using h
    go_enter Try.func92, Try.ntmps92
    go_wp2
    go_ret
    exact ⟨ret_bool (extract_pre a b), rfl⟩
  · have h2 : decide ((b.size : Int) ≤ (a.size : Int)) = false := by simpa using h
    go_enter Try.func92, Try.ntmps92
    go_wp2
    go_ret
    exact ⟨ret_bool (isPre_short h).symm, rfl⟩

set_option maxHeartbeats 400000 in
theorem hasPrefix_any (a b : ByteArray) (w : World) : Calls Try.prog 71 #[.string a, .string b] w fun e w' => e = .returned (.bool (isPre b a)) ∧ w = w' := by
  go_enter Try.func71, Try.ntmps71
  go_wp2_with (go_at_call 92; refine (hasPrefixI_any _ _ _).mono ?_; rintro e w' ⟨rfl, rfl⟩)
  go_ret
  exact ⟨rfl, rfl⟩

/-- A number and some Bool, the world as it was. -/
def RetIdx (m : Nat) (w : World) (e : Ending) (w' : World) : Prop := (∃ f, e = .returned (.tuple #[.int .i64 m, .bool f])) ∧ w = w'

/-- The place of a key in a row of keys. -/
theorem bsearch_any (w : World) (g c : Nat) (keys : List ByteArray) (k : ByteArray) (hs : KSorted keys) (hn : keys.length < 4611686018427387904)
    (hc : ∀ j x, keys[j]? = some x → w.cell? ⟨g, j, none⟩ = some (.string x)) :
    Calls Try.prog 83 #[.slice (some ⟨g, 0, none⟩) keys.length c, .string k] w (RetIdx (lb keys k) w) := by
  have hle := lb_le keys k
  obtain ⟨n, hn'⟩ : ∃ n, keys.length = n := ⟨_, rfl⟩
  obtain ⟨m, hm'⟩ : ∃ m, lb keys k = m := ⟨_, rfl⟩
  have hlt : ∀ i (h : i < keys.length), KLt keys[i] k ↔ i < m := fun i h => by rw [← hm']; exact lb_lt_iff hs k i h
  have HC : Hid (∀ j x, keys[j]? = some x → w.cell? ⟨g, j, none⟩ = some (.string x)) := hc
  have HL : Hid (∀ i (h : i < keys.length), KLt keys[i] k ↔ i < m) := hlt
  rw [hm', hn'] at hle
  rw [hn'] at hn ⊢
  rw [hm']
  have HN : Hid (keys.length = n) := hn'
  clear hc hlt hs hn' hm'
  go_enter Try.func83, Try.ntmps83
  go_wp2
  go_loop [7, 8] (fun s7 s8 => ∃ lo hi : Nat, s7 = .int .i64 lo ∧ s8 = .int .i64 hi ∧ lo ≤ m ∧ m ≤ hi ∧ hi ≤ n) (fun s7 s8 => (intOf s8).toNat - (intOf s7).toNat)
  case atStart => exact ⟨0, n, rfl, rfl, by omega, hle, by omega⟩
  case round =>
    obtain ⟨lo, hi, rfl, rfl, h1, h2, h3⟩ := hrel
    by_cases hlt : lo < hi
    · have hmid : (lo + hi) / 2 < n := by omega
      have hmk : (lo + hi) / 2 < keys.length := by rw [HN.out]; exact hmid
      have cm : w.cell? ⟨g, (lo + hi) / 2, none⟩ = some (.string keys[(lo + hi) / 2]) := HC.out _ _ (List.getElem?_eq_getElem hmk)
      have hl := HL.out _ hmk
      obtain ⟨y, hy⟩ : ∃ y, keys[(lo + hi) / 2] = y := ⟨_, rfl⟩
      rw [hy] at cm hl
      clear hy
      by_cases hk : KLt y k
      · have hk1 : decide (KLt y k) = true := by simpa using hk
        have hl2 := hl.1 hk
        clear hl hk
        go_wp2_with (go_at_call 97; refine (cmpLess_any _ _ _).mono ?_; rintro e w' ⟨rfl, rfl⟩)
        go_round
        case rel => exact ⟨(lo + hi) / 2 + 1, hi, by go_num, rfl, by omega, by omega, by omega⟩
        case measure => simp [intOf]; omega
      · have hk1 : decide (KLt y k) = false := by simpa using hk
        have hl2 : ¬ (lo + hi) / 2 < m := fun e => hk (hl.2 e)
        clear hl hk
        go_wp2_with (go_at_call 97; refine (cmpLess_any _ _ _).mono ?_; rintro e w' ⟨rfl, rfl⟩)
        go_round
        case rel => exact ⟨lo, (lo + hi) / 2, rfl, by go_num, by omega, by omega, by omega⟩
        case measure => simp [intOf]; omega
    · obtain rfl : lo = m := by omega
      obtain rfl : hi = lo := by omega
      by_cases hn2 : hi < n
      · have hmk : hi < keys.length := by rw [HN.out]; exact hn2
        have cm : w.cell? ⟨g, hi, none⟩ = some (.string keys[hi]) := HC.out _ _ (List.getElem?_eq_getElem hmk)
        obtain ⟨y, hy⟩ : ∃ y, keys[hi] = y := ⟨_, rfl⟩
        rw [hy] at cm
        clear hy
        by_cases hk : (y.toList == k.toList) = true
        · go_wp2_with (go_at_call 98; refine (slicesIsNaN_any _ _).mono ?_; rintro e w' ⟨rfl, rfl⟩)
          go_ret2
          exact ⟨⟨_, rfl⟩, rfl⟩
        · have hk2 : (y.toList == k.toList) = false := by simpa using hk
          clear hk
          go_wp2_with (go_at_call 98; refine (slicesIsNaN_any _ _).mono ?_; rintro e w' ⟨rfl, rfl⟩)
          go_ret2
          exact ⟨⟨_, rfl⟩, rfl⟩
      · go_wp2
        go_ret2
        exact ⟨⟨_, rfl⟩, rfl⟩

end Go.Proofs.Ytgnnnjabgoadaaa
