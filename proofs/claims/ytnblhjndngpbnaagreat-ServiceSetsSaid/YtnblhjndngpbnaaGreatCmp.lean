/- What is proved here: what the comparing functions of strings return, and the two binary searches of the program: the place of a key in a row of keys, and among rows of keys. in which row of keys a key stands, or would: the store's own binary search over rows. plain facts on rows of keys: in which row a key stands or belongs, what all keys are when one is put in or taken out of its row. No program is named. -/
import Derived.Test.YtnblhjndngpbnaaGreatBase
import Derived.Lib.Bytealg
import Derived.Lib.Split
namespace Go.Proofs.YtnblhjndngpbnaaGreat
open Go.RowKit

def cmpB (a b : ByteArray) : Int := Lib.compareBytes a.data.toList b.data.toList

theorem compareBytes_lt : ∀ a b : List UInt8, (Lib.compareBytes a b < 0 ↔ a < b) ∧ (Lib.compareBytes a b = 0 ↔ a = b)
  | [], [] => by simp [Lib.compareBytes]
  | [], _ :: _ => by simp [Lib.compareBytes]
  | _ :: _, [] => by simp [Lib.compareBytes]
  | a :: ar, b :: br => by
    have ih := compareBytes_lt ar br
    simp only [Lib.compareBytes, List.cons_lt_cons_iff]
    by_cases h1 : a < b
    · have h2 : a ≠ b := fun e => by subst e; exact absurd h1 (Nat.lt_irrefl _)
      simp [h1, h2]
    · by_cases h2 : b < a
      · have h3 : a ≠ b := fun e => by subst e; exact absurd h2 (Nat.lt_irrefl _)
        simp [h1, h2, h3]
      · have h3 : a = b := UInt8.le_antisymm (UInt8.not_lt.1 h2) (UInt8.not_lt.1 h1)
        subst h3
        simp [h1, ih]

theorem cmpB_lt (a b : ByteArray) : cmpB a b < 0 ↔ KLt a b := (compareBytes_lt _ _).1
theorem cmpB_eq (a b : ByteArray) : cmpB a b = 0 ↔ a = b := ⟨fun h => ba_ext ((compareBytes_lt _ _).2.1 h), fun h => (compareBytes_lt _ _).2.2 (by rw [h])⟩
theorem cmpB_range (a b : ByteArray) : -1 ≤ cmpB a b ∧ cmpB a b ≤ 1 := by
  have : ∀ a b : List UInt8, -1 ≤ Lib.compareBytes a b ∧ Lib.compareBytes a b ≤ 1 := by
    intro a
    induction a with
    | nil => intro b; cases b <;> simp [Lib.compareBytes]
    | cons x a ih =>
      intro b
      cases b with
      | nil => simp [Lib.compareBytes]
      | cons y b =>
        simp only [Lib.compareBytes]
        split
        · omega
        · split
          · omega
          · exact ih b
  exact this _ _

set_option maxHeartbeats 400000 in
theorem compareString_any (a b : ByteArray) (w : World) : Calls Tryz.prog 102 #[.string a, .string b] w fun e w' => e = .returned (.int .i64 (cmpB a b)) ∧ w = w' := by
  have hc : ∀ w : World, (callFunc 121 #[.string a, .string b]).run Tryz.prog w = .ok (.value (.int .i64 (cmpB a b))) w := fun w => by
    rw [run_callFunc_extern Tryz.func121 (by kernel_rfl) (by kernel_rfl) (by kernel_rfl) (e := Extern.BytealgCompare.compare) (by kernel_rfl), Lib.run_compareString]; rfl
  go_enter Tryz.func102, Tryz.ntmps102
  go_wp2
  go_ret
  exact ⟨rfl, rfl⟩

set_option maxHeartbeats 400000 in
theorem compare_any (a b : ByteArray) (w : World) : Calls Tryz.prog 92 #[.string a, .string b] w fun e w' => e = .returned (.int .i64 (cmpB a b)) ∧ w = w' := by
  go_enter Tryz.func92, Tryz.ntmps92
  go_wp2_with (go_at_call 102; refine (compareString_any _ _ _).mono ?_; rintro e w' ⟨rfl, rfl⟩)
  go_ret
  exact ⟨rfl, rfl⟩

set_option maxHeartbeats 400000 in
theorem cmpIsNaN_any (x : ByteArray) (w : World) : Calls Tryz.prog 135 #[.string x] w fun e w' => e = .returned (.bool false) ∧ w = w' := by
  go_enter Tryz.func135, Tryz.ntmps135
  go_wp2
  go_ret
  exact ⟨by simp, rfl⟩

set_option maxHeartbeats 400000 in
theorem slicesIsNaN_any (x : ByteArray) (w : World) : Calls Tryz.prog 129 #[.string x] w fun e w' => e = .returned (.bool false) ∧ w = w' := by
  go_enter Tryz.func129, Tryz.ntmps129
  go_wp2
  go_ret
  exact ⟨by simp, rfl⟩

set_option maxHeartbeats 400000 in
theorem cmpLess_any (a b : ByteArray) (w : World) : Calls Tryz.prog 128 #[.string a, .string b] w fun e w' => e = .returned (.bool (decide (KLt a b))) ∧ w = w' := by
  go_enter Tryz.func128, Tryz.ntmps128
  go_wp2_with (go_at_call 135; refine (cmpIsNaN_any _ _).mono ?_; rintro e w' ⟨rfl, rfl⟩)
  go_ret
  exact ⟨by rw [← bytesLess_KLt]; rfl, rfl⟩

/-- b begins a. -/
def isPre (b a : ByteArray) : Bool := b.data.toList.isPrefixOf a.data.toList

theorem size_list (b : ByteArray) : b.size = b.data.toList.length := rfl

theorem extract_pre (a b : ByteArray) : ((a.extract 0 b.size).toList == b.toList) = isPre b a := by
  rw [ByteArray.toList_eq, ByteArray.toList_eq, Lib.extract_from_zero, Bool.eq_iff_iff]
  unfold isPre
  rw [beq_iff_eq, List.isPrefixOf_iff_prefix, size_list, List.prefix_iff_eq_take]
  exact eq_comm

theorem isPre_short {a b : ByteArray} (h : ¬ b.size ≤ a.size) : isPre b a = false := by
  unfold isPre
  rw [Bool.eq_false_iff]
  intro e
  exact h (List.isPrefixOf_iff_prefix.1 e).length_le

set_option maxHeartbeats 400000 in
theorem hasPrefixI_any (a b : ByteArray) (w : World) : Calls Tryz.prog 93 #[.string a, .string b] w fun e w' => e = .returned (.bool (isPre b a)) ∧ w = w' := by
  by_cases h : b.size ≤ a.size
  · have h2 : decide ((b.size : Int) ≤ (a.size : Int)) = true := by simpa using h
    go_enter Tryz.func93, Tryz.ntmps93
    go_wp2
    go_ret
    exact ⟨ret_bool (extract_pre a b), rfl⟩
  · have h2 : decide ((b.size : Int) ≤ (a.size : Int)) = false := by simpa using h
    go_enter Tryz.func93, Tryz.ntmps93
    go_wp2
    go_ret
    exact ⟨ret_bool (isPre_short h).symm, rfl⟩

set_option maxHeartbeats 400000 in
theorem hasPrefix_any (a b : ByteArray) (w : World) : Calls Tryz.prog 67 #[.string a, .string b] w fun e w' => e = .returned (.bool (isPre b a)) ∧ w = w' := by
  go_enter Tryz.func67, Tryz.ntmps67
  go_wp2_with (go_at_call 93; refine (hasPrefixI_any _ _ _).mono ?_; rintro e w' ⟨rfl, rfl⟩)
  go_ret
  exact ⟨rfl, rfl⟩

/-- A number and some Bool, the world as it was. -/
def RetIdx (m : Nat) (w : World) (e : Ending) (w' : World) : Prop := (∃ f, e = .returned (.tuple #[.int .i64 m, .bool f])) ∧ w = w'

/-- The place of a key in a row of keys. -/
theorem bsearch_any (w : World) (g c : Nat) (keys : List ByteArray) (k : ByteArray) (hs : KSorted keys) (hn : keys.length < 4611686018427387904)
    (hc : ∀ j x, keys[j]? = some x → w.cell? ⟨g, j, none⟩ = some (.string x)) :
    Calls Tryz.prog 115 #[.slice (some ⟨g, 0, none⟩) keys.length c, .string k] w (RetIdx (lb keys k) w) := by
  have hle := lb_le keys k
  obtain ⟨n, hn'⟩ : ∃ n, keys.length = n := ⟨_, rfl⟩
  obtain ⟨m, hm'⟩ : ∃ m, lb keys k = m := ⟨_, rfl⟩
  have hlt : ∀ i (h : i < keys.length), KLt keys[i] k ↔ i < m := fun i h => by rw [← hm']; exact lb_lt_iff hs k i h
  have HC : Hid (∀ j x, keys[j]? = some x → w.cell? ⟨g, j, none⟩ = some (.string x)) := hc
  have HL : Hid (∀ i (h : i < keys.length), KLt keys[i] k ↔ i < m) := hlt
  rw [hm', hn'] at hle
  rw [hn'] at hn ⊢
  rw [hm']
  have HN : Hid (keys.length = n) := hn'
  clear hc hlt hs hn' hm'
  go_enter Tryz.func115, Tryz.ntmps115
  go_wp2
  go_loop [7, 8] (fun s7 s8 => ∃ lo hi : Nat, s7 = .int .i64 lo ∧ s8 = .int .i64 hi ∧ lo ≤ m ∧ m ≤ hi ∧ hi ≤ n) (fun s7 s8 => (intOf s8).toNat - (intOf s7).toNat)
  case atStart => exact ⟨0, n, rfl, rfl, by omega, hle, by omega⟩
  case round =>
    obtain ⟨lo, hi, rfl, rfl, h1, h2, h3⟩ := hrel
    by_cases hlt : lo < hi
    · have hmid : (lo + hi) / 2 < n := by omega
      have hmk : (lo + hi) / 2 < keys.length := by rw [HN.out]; exact hmid
      have cm : w.cell? ⟨g, (lo + hi) / 2, none⟩ = some (.string keys[(lo + hi) / 2]) := HC.out _ _ (List.getElem?_eq_getElem hmk)
      have hl := HL.out _ hmk
      obtain ⟨y, hy⟩ : ∃ y, keys[(lo + hi) / 2] = y := ⟨_, rfl⟩
      rw [hy] at cm hl
      clear hy
      by_cases hk : KLt y k
      · have hk1 : decide (KLt y k) = true := by simpa using hk
        have hl2 := hl.1 hk
        clear hl hk
        go_wp2_with (go_at_call 128; refine (cmpLess_any _ _ _).mono ?_; rintro e w' ⟨rfl, rfl⟩)
        go_round
        case rel => exact ⟨(lo + hi) / 2 + 1, hi, by go_num, rfl, by omega, by omega, by omega⟩
        case measure => simp [intOf]; omega
      · have hk1 : decide (KLt y k) = false := by simpa using hk
        have hl2 : ¬ (lo + hi) / 2 < m := fun e => hk (hl.2 e)
        clear hl hk
        go_wp2_with (go_at_call 128; refine (cmpLess_any _ _ _).mono ?_; rintro e w' ⟨rfl, rfl⟩)
        go_round
        case rel => exact ⟨lo, (lo + hi) / 2, rfl, by go_num, by omega, by omega, by omega⟩
        case measure => simp [intOf]; omega
    · obtain rfl : lo = m := by omega
      obtain rfl : hi = lo := by omega
      by_cases hn2 : hi < n
      · have hmk : hi < keys.length := by rw [HN.out]; exact hn2
        have cm : w.cell? ⟨g, hi, none⟩ = some (.string keys[hi]) := HC.out _ _ (List.getElem?_eq_getElem hmk)
        obtain ⟨y, hy⟩ : ∃ y, keys[hi] = y := ⟨_, rfl⟩
        rw [hy] at cm
        clear hy
        by_cases hk : (y.toList == k.toList) = true
        · go_wp2_with (go_at_call 129; refine (slicesIsNaN_any _ _).mono ?_; rintro e w' ⟨rfl, rfl⟩)
          go_ret2
          exact ⟨⟨_, rfl⟩, rfl⟩
        · have hk2 : (y.toList == k.toList) = false := by simpa using hk
          clear hk
          go_wp2_with (go_at_call 129; refine (slicesIsNaN_any _ _).mono ?_; rintro e w' ⟨rfl, rfl⟩)
          go_ret2
          exact ⟨⟨_, rfl⟩, rfl⟩
      · go_wp2
        go_ret2
        exact ⟨⟨_, rfl⟩, rfl⟩

end Go.Proofs.YtnblhjndngpbnaaGreat

namespace Go.Proofs.YtnblhjndngpbnaaGreat
open Go.RowKit

/-- A row of keys: its block, its capacity, its keys. -/
structure Blk where
  g : Nat
  cap : Nat
  keys : List ByteArray

def Blk.val (x : Blk) : Value := .slice (some ⟨x.g, 0, none⟩) x.keys.length x.cap
def Blk.last (x : Blk) : ByteArray := x.keys.getLastD emptyB

set_option maxHeartbeats 400000 in
theorem findcl_any (w : World) (g n c : Nat) (y k : ByteArray) (hn : n < 4611686018427387904) (hc : w.cell? ⟨g, n, none⟩ = some (.string y)) :
    Calls Tryz.prog 91 #[.slice (some ⟨g, 0, none⟩) (n + 1) c, .string k] w fun e w' => e = .returned (.int .i64 (cmpB y k)) ∧ w = w' := by
  go_enter Tryz.func91, Tryz.ntmps91
  go_wp2_with (go_at_call 92; refine (compare_any _ _ _).mono ?_; rintro e w' ⟨rfl, rfl⟩)
  go_ret
  exact ⟨rfl, rfl⟩

/-- The rows' last keys lie where the search reads them. -/
structure LastsAt (w : World) (g : Nat) (bs : List Blk) : Prop where
  row : ∀ (j : Nat) (h : j < bs.length), w.cell? ⟨g, j, none⟩ = some bs[j].val
  key : ∀ (j : Nat) (h : j < bs.length), ∃ n, bs[j].keys.length = n + 1 ∧ n < 4611686018427387904 ∧ w.cell? ⟨bs[j].g, n, none⟩ = some (.string bs[j].last)

set_option maxHeartbeats 1000000 in
theorem bsearchf_any (w : World) (g c : Nat) (bs : List Blk) (k : ByteArray) (hs : KSorted (bs.map Blk.last)) (hn : bs.length < 4611686018427387904) (hc : LastsAt w g bs) :
    Calls Tryz.prog 90 #[.slice (some ⟨g, 0, none⟩) bs.length c, .string k, .func (.func 91) #[] #[]] w
      (RetIdx (lb (bs.map Blk.last) k) w) := by
  have hle := lb_le (bs.map Blk.last) k
  rw [List.length_map] at hle
  obtain ⟨n, hn'⟩ : ∃ n, bs.length = n := ⟨_, rfl⟩
  obtain ⟨m, hm'⟩ : ∃ m, lb (bs.map Blk.last) k = m := ⟨_, rfl⟩
  have hlt : ∀ i (h : i < bs.length), KLt bs[i].last k ↔ i < m := fun i h => by
    rw [← hm', ← lb_lt_iff hs k i (by simpa using h), List.getElem_map]
  have HL : Hid (∀ i (h : i < bs.length), KLt bs[i].last k ↔ i < m) := hlt
  rw [hm', hn'] at hle
  rw [hn'] at hn ⊢
  rw [hm']
  have HN : Hid (bs.length = n) := hn'
  clear hlt hs hn' hm'
  go_enter Tryz.func90, Tryz.ntmps90
  go_wp2
  go_loop [9, 10] (fun s7 s8 => ∃ lo hi : Nat, s7 = .int .i64 lo ∧ s8 = .int .i64 hi ∧ lo ≤ m ∧ m ≤ hi ∧ hi ≤ n) (fun s7 s8 => (intOf s8).toNat - (intOf s7).toNat)
  case atStart => exact ⟨0, n, rfl, rfl, by omega, hle, by omega⟩
  case round =>
    obtain ⟨lo, hi, rfl, rfl, h1, h2, h3⟩ := hrel
    by_cases hlt : lo < hi
    · have hmid : (lo + hi) / 2 < n := by omega
      have hmk : (lo + hi) / 2 < bs.length := by rw [HN.out]; exact hmid
      have cm := hc.row _ hmk
      obtain ⟨q, e1, e2, cq⟩ := hc.key _ hmk
      have hl := HL.out _ hmk
      simp only [Blk.val, e1] at cm
      clear e1
      generalize bs[(lo + hi) / 2].last = y at *
      generalize bs[(lo + hi) / 2].g = bg at *
      generalize bs[(lo + hi) / 2].cap = bc at *
      by_cases hk : KLt y k
      · have hk1 : cmpB y k < 0 := (cmpB_lt _ _).2 hk
        have hl2 := hl.1 hk
        clear hl hk
        go_wp2_with (go_at_call 91; refine (findcl_any _ _ _ _ _ _ e2 cq).mono ?_; rintro e w' ⟨rfl, rfl⟩)
        go_round
        case rel => exact ⟨(lo + hi) / 2 + 1, hi, by go_num, rfl, by omega, by omega, by omega⟩
        case measure => simp [intOf]; omega
      · have hk1 : ¬ cmpB y k < 0 := fun e => hk ((cmpB_lt _ _).1 e)
        have hl2 : ¬ (lo + hi) / 2 < m := fun e => hk (hl.2 e)
        clear hl hk
        go_wp2_with (go_at_call 91; refine (findcl_any _ _ _ _ _ _ e2 cq).mono ?_; rintro e w' ⟨rfl, rfl⟩)
        go_round
        case rel => exact ⟨lo, (lo + hi) / 2, rfl, by go_num, by omega, by omega, by omega⟩
        case measure => simp [intOf]; omega
    · obtain rfl : hi = m := by omega
      obtain rfl : lo = hi := by omega
      by_cases hn2 : lo < n
      · have hmk : lo < bs.length := by rw [HN.out]; exact hn2
        have cm := hc.row _ hmk
        obtain ⟨q, e1, e2, cq⟩ := hc.key _ hmk
        simp only [Blk.val, e1] at cm
        clear e1 HL
        generalize bs[lo].last = y at *
        generalize bs[lo].g = bg at *
        generalize bs[lo].cap = bc at *
        by_cases hk : (cmpB y k == 0) = true
        · go_wp2_with (go_at_call 91; refine (findcl_any _ _ _ _ _ _ e2 cq).mono ?_; rintro e w' ⟨rfl, rfl⟩)
          go_ret2
          exact ⟨⟨_, rfl⟩, rfl⟩
        · have hk2 : (cmpB y k == 0) = false := by simpa using hk
          clear hk
          go_wp2_with (go_at_call 91; refine (findcl_any _ _ _ _ _ _ e2 cq).mono ?_; rintro e w' ⟨rfl, rfl⟩)
          go_ret2
          exact ⟨⟨_, rfl⟩, rfl⟩
      · go_wp2
        go_ret2
        exact ⟨⟨_, rfl⟩, rfl⟩

set_option maxHeartbeats 400000 in
/-- The row in which a key stands, or would. -/
theorem find_any (w : World) (b g c : Nat) (bs : List Blk) (k : ByteArray) (hs : KSorted (bs.map Blk.last)) (hn : bs.length < 4611686018427387904) (h0 : 0 < bs.length) (hb : w.cell? ⟨b, 2, none⟩ = some (.slice (some ⟨g, 0, none⟩) bs.length c)) (hc : LastsAt w g bs) :
    Calls Tryz.prog 66 #[.pointer (some ⟨b, 0, none⟩), .string k] w fun e w' => e = .returned (.int .i64 (min (lb (bs.map Blk.last) k) (bs.length - 1) : Nat)) ∧ w = w' := by
  have HS := Lib.hid (bsearchf_any w g c bs k hs hn hc)
  obtain ⟨n, hn'⟩ : ∃ n, bs.length = n := ⟨_, rfl⟩
  obtain ⟨m, hm'⟩ : ∃ m, lb (bs.map Blk.last) k = m := ⟨_, rfl⟩
  rw [hn', hm'] at HS
  rw [hn'] at hn h0 hb ⊢
  rw [hm']
  clear hn' hm' hc
  have e1 : ((n : Int) - 1) = ((n - 1 : Nat) : Int) := by omega
  go_enter Tryz.func66, Tryz.ntmps66
  go_wp2_with (go_at_call 90; refine HS.out.mono ?_; rintro e w' ⟨⟨f, rfl⟩, rfl⟩)
  all_goals (go_ret; exact ⟨ret_int (by omega), rfl⟩)
end Go.Proofs.YtnblhjndngpbnaaGreat

namespace Go.Proofs.YtnblhjndngpbnaaGreat

def allKeys (bs : List Blk) : List ByteArray := bs.flatMap Blk.keys

theorem allKeys_nil : allKeys [] = [] := rfl
theorem allKeys_cons (x : Blk) (bs : List Blk) : allKeys (x :: bs) = x.keys ++ allKeys bs := rfl
theorem allKeys_append (A B : List Blk) : allKeys (A ++ B) = allKeys A ++ allKeys B := List.flatMap_append

theorem allKeys_length {bs : List Blk} (h : ∀ x ∈ bs, x.keys ≠ []) : bs.length ≤ (allKeys bs).length := by
  induction bs with
  | nil => simp
  | cons x r ih =>
    have h1 : 0 < x.keys.length := List.length_pos_iff.2 (h x (by simp))
    have h2 := ih (fun y hy => h y (by simp [hy]))
    simp only [allKeys_cons, List.length_append, List.length_cons]
    omega

theorem keys_le_all {bs : List Blk} {x : Blk} (h : x ∈ bs) : x.keys.length ≤ (allKeys bs).length := by
  obtain ⟨A, C, rfl⟩ := List.append_of_mem h
  simp only [allKeys_append, allKeys_cons, List.length_append]
  omega

theorem Blk.last_mem {x : Blk} (h : x.keys ≠ []) : x.last ∈ x.keys := by
  unfold Blk.last
  rw [List.getLastD_eq_getLast?, List.getLast?_eq_some_getLast h]
  exact List.getLast_mem h

theorem Blk.last_eq {x : Blk} {n : Nat} (h : x.keys.length = n + 1) : x.keys[n]? = some x.last := by
  have hne : x.keys ≠ [] := by intro e; rw [e] at h; simp at h
  unfold Blk.last
  rw [List.getLastD_eq_getLast?, List.getLast?_eq_getElem?, h]
  simp [List.getElem?_eq_getElem (show n < x.keys.length by omega)]

theorem le_last {x : Blk} (hs : KSorted x.keys) {y : ByteArray} (h : y ∈ x.keys) : ¬ KLt x.last y := by
  have hne : x.keys ≠ [] := by intro e; rw [e] at h; simp at h
  obtain ⟨n, hn⟩ : ∃ n, x.keys.length = n + 1 := ⟨x.keys.length - 1, by have := List.length_pos_iff.2 hne; omega⟩
  obtain ⟨i, hi, rfl⟩ := List.getElem_of_mem h
  have hl := Blk.last_eq hn
  rw [List.getElem?_eq_getElem (show n < x.keys.length by omega), Option.some.injEq] at hl
  rw [← hl]
  rcases Nat.eq_or_lt_of_le (show i ≤ n by omega) with e | e
  · subst e; exact KLt.irrefl _
  · exact (List.pairwise_iff_getElem.1 hs i n hi (by omega) e).asymm

theorem all_sorted_of {bs : List Blk} (hs : KSorted (allKeys bs)) {x : Blk} (h : x ∈ bs) : KSorted x.keys := by
  obtain ⟨A, C, rfl⟩ := List.append_of_mem h
  rw [allKeys_append, allKeys_cons] at hs
  exact (List.pairwise_append.1 (List.pairwise_append.1 hs).2.1).1

theorem lasts_sorted {bs : List Blk} (hne : ∀ x ∈ bs, x.keys ≠ []) (hs : KSorted (allKeys bs)) : KSorted (bs.map Blk.last) := by
  induction bs with
  | nil => exact List.Pairwise.nil
  | cons x r ih =>
    rw [allKeys_cons] at hs
    have hp := List.pairwise_append.1 hs
    refine List.pairwise_cons.2 ⟨fun y hy => ?_, ih (fun z hz => hne z (by simp [hz])) hp.2.1⟩
    obtain ⟨z, hz, rfl⟩ := List.mem_map.1 hy
    exact hp.2.2 _ (Blk.last_mem (hne x (by simp))) _ (List.mem_flatMap.2 ⟨z, hz, Blk.last_mem (hne z (by simp [hz]))⟩)

/-- The row in which a key stands, or would. -/
theorem place {bs : List Blk} (hne : ∀ x ∈ bs, x.keys ≠ []) (hs : KSorted (allKeys bs)) (k : ByteArray) (h0 : 0 < bs.length) :
    ∃ A x C, bs = A ++ x :: C ∧ A.length = min (lb (bs.map Blk.last) k) (bs.length - 1) ∧ lb (allKeys bs) k = (allKeys A).length + lb x.keys k := by
  have hls := lasts_sorted hne hs
  obtain ⟨i, hi⟩ : ∃ i, i = min (lb (bs.map Blk.last) k) (bs.length - 1) := ⟨_, rfl⟩
  have hib : i < bs.length := by omega
  have hsplit : bs = bs.take i ++ bs[i] :: bs.drop (i + 1) := by
    rw [← List.drop_eq_getElem_cons hib, List.take_append_drop]
  refine ⟨bs.take i, bs[i], bs.drop (i + 1), hsplit, by rw [List.length_take]; omega, ?_⟩
  have hA : ∀ y ∈ allKeys (bs.take i), KLt y k := by
    intro y hy
    obtain ⟨z, hz, hyz⟩ := List.mem_flatMap.1 hy
    obtain ⟨j, hj, rfl⟩ := List.getElem_of_mem hz
    rw [List.length_take] at hj
    have hjb : j < bs.length := by omega
    rw [List.getElem_take] at hyz
    have h1 := (lb_lt_iff hls k j (by simpa using hjb)).2 (by omega)
    rw [List.getElem_map] at h1
    exact KLt.of_not (le_last (all_sorted_of hs (List.getElem_mem hjb)) hyz) h1
  have e : lb (allKeys bs) k = lb (allKeys (bs.take i) ++ (bs[i].keys ++ allKeys (bs.drop (i + 1)))) k := by
    rw [← allKeys_cons, ← allKeys_append, ← hsplit]
  rw [e, lb_append_right hA]
  congr 1
  have hle := lb_le bs[i].keys k
  rcases Nat.lt_or_eq_of_le hle with h | h
  · exact lb_append_left h
  · have hall : ∀ y ∈ bs[i].keys, KLt y k := by
      intro y hy
      obtain ⟨j, hj, rfl⟩ := List.getElem_of_mem hy
      exact (lb_lt_iff (all_sorted_of hs (List.getElem_mem hib)) k j hj).2 (by omega)
    have hl := hall _ (Blk.last_mem (hne _ (List.getElem_mem hib)))
    have h1 := (lb_lt_iff hls k i (by simpa using hib)).1 (by rw [List.getElem_map]; exact hl)
    have h2 : i + 1 = bs.length := by omega
    rw [List.drop_of_length_le (by omega), allKeys_nil, List.append_nil]

theorem insert_all (A C : List Blk) (x : Blk) (k : ByteArray) (n : Nat) (hn : n ≤ x.keys.length) :
    (allKeys (A ++ x :: C)).take ((allKeys A).length + n) ++ k :: (allKeys (A ++ x :: C)).drop ((allKeys A).length + n) = allKeys A ++ ((x.keys.take n ++ k :: x.keys.drop n) ++ allKeys C) := by
  rw [allKeys_append, allKeys_cons, List.take_length_add_append, List.drop_length_add_append, List.take_append_of_le_length hn, List.drop_append_of_le_length hn]
  simp

theorem remove_all (A C : List Blk) (x : Blk) (n : Nat) (hn : n < x.keys.length) :
    (allKeys (A ++ x :: C)).take ((allKeys A).length + n) ++ (allKeys (A ++ x :: C)).drop ((allKeys A).length + n + 1) = allKeys A ++ ((x.keys.take n ++ x.keys.drop (n + 1)) ++ allKeys C) := by
  rw [allKeys_append, allKeys_cons, List.take_length_add_append, Nat.add_assoc, List.drop_length_add_append, List.take_append_of_le_length (by omega), List.drop_append_of_le_length (by omega)]
  simp

theorem insert_sorted {l : List ByteArray} (hs : KSorted l) {k : ByteArray} (hk : k ∉ l) : KSorted (l.take (lb l k) ++ k :: l.drop (lb l k)) := by
  have h1 : ∀ y ∈ l.take (lb l k), KLt y k := by
    intro y hy
    obtain ⟨j, hj, rfl⟩ := List.getElem_of_mem hy
    rw [List.length_take] at hj
    rw [List.getElem_take]
    exact (lb_lt_iff hs k j (by omega)).2 (by omega)
  have h2 : ∀ y ∈ l.drop (lb l k), KLt k y := by
    intro y hy
    obtain ⟨j, hj, rfl⟩ := List.getElem_of_mem hy
    rw [List.length_drop] at hj
    rw [List.getElem_drop]
    have h3 : ¬ KLt l[lb l k + j] k := fun h => by
      have := (lb_lt_iff hs k _ (by omega)).1 h; omega
    by_cases h4 : KLt k l[lb l k + j]
    · exact h4
    · exact absurd (by rw [KLt.eq h4 h3]; exact List.getElem_mem _) hk
  refine List.pairwise_append.2 ⟨hs.sublist (List.take_sublist _ _), List.pairwise_cons.2 ⟨h2, hs.sublist (List.drop_sublist _ _)⟩, fun a ha b hb => ?_⟩
  rcases List.mem_cons.1 hb with rfl | hb
  · exact h1 a ha
  · exact (h1 a ha).trans (h2 b hb)

theorem remove_sorted {l : List ByteArray} (hs : KSorted l) (n : Nat) : KSorted (l.take n ++ l.drop (n + 1)) := by
  rw [← List.eraseIdx_eq_take_drop_succ]
  exact hs.sublist (List.eraseIdx_sublist _ _)

/-- A key that is there stands in the row that the search names. -/
theorem place_in {bs A C : List Blk} {x : Blk} {k : ByteArray} (hs : KSorted (allKeys bs)) (e : bs = A ++ x :: C) (hl : lb (allKeys bs) k = (allKeys A).length + lb x.keys k) (hk : k ∈ allKeys bs) (hne : ∀ x ∈ bs, x.keys ≠ []) (hA : A.length = min (lb (bs.map Blk.last) k) (bs.length - 1)) : lb x.keys k < x.keys.length := by
  have hle := lb_le x.keys k
  rcases Nat.lt_or_eq_of_le hle with h | h
  · exact h
  · exfalso
    obtain ⟨hlt, _⟩ := lb_at hs hk
    have hx : x ∈ bs := by rw [e]; simp
    have hlast : KLt x.last k := by
      have hm := Blk.last_mem (hne x hx)
      obtain ⟨j, hj, hj2⟩ := List.getElem_of_mem hm
      rw [← hj2]
      exact (lb_lt_iff (all_sorted_of hs hx) k j hj).2 (by omega)
    have hAb : A.length < bs.length := by rw [e]; simp
    have h1 := (lb_lt_iff (lasts_sorted hne hs) k A.length (by simpa using hAb)).1 (by simp only [e, List.map_append, List.map_cons]; rw [List.getElem_append_right (by simp)]; simpa using hlast)
    have h2 : A.length + 1 = bs.length := by omega
    have h3 : C = [] := by
      have := congrArg List.length e
      simp only [List.length_append, List.length_cons] at this
      exact List.eq_nil_of_length_eq_zero (by omega)
    rw [hl, h, e, h3, allKeys_append, allKeys_cons] at hlt
    simp [allKeys_nil] at hlt

end Go.Proofs.YtnblhjndngpbnaaGreat
