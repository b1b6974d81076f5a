/- What is proved here: in which row of keys a key stands, or would: the store's own binary search over rows. -/
import Derived.Test.YtgnnnjabgoadaaaCmp
namespace Go.Proofs.Ytgnnnjabgoadaaa
open Go.RowKit

/-- A row of keys: its block, its capacity, its keys. -/
structure Blk where
  g : Nat
  cap : Nat
  keys : List ByteArray

def Blk.val (x : Blk) : Value := .slice (some ⟨x.g, 0, none⟩) x.keys.length x.cap
def Blk.last (x : Blk) : ByteArray := x.keys.getLastD emptyB

set_option maxHeartbeats 400000 in
theorem findcl_any (w : World) (g n c : Nat) (y k : ByteArray) (hn : n < 4611686018427387904) (hc : w.cell? ⟨g, n, none⟩ = some (.string y)) :
    Calls Try.prog 90 #[.slice (some ⟨g, 0, none⟩) (n + 1) c, .string k] w fun e w' => e = .returned (.int .i64 (cmpB y k)) ∧ w = w' := by
  go_enter Try.func90, Try.ntmps90
  go_wp2_with (go_at_call 91; refine (compare_any _ _ _).mono ?_; rintro e w' ⟨rfl, rfl⟩)
  go_ret
  exact ⟨rfl, rfl⟩

/-- The rows' last keys lie where the search reads them. -/
structure LastsAt (w : World) (g : Nat) (bs : List Blk) : Prop where
  row : ∀ (j : Nat) (h : j < bs.length), w.cell? ⟨g, j, none⟩ = some bs[j].val
  key : ∀ (j : Nat) (h : j < bs.length), ∃ n, bs[j].keys.length = n + 1 ∧ n < 4611686018427387904 ∧ w.cell? ⟨bs[j].g, n, none⟩ = some (.string bs[j].last)

set_option maxHeartbeats 1000000 in
theorem bsearchf_any (w : World) (g c : Nat) (bs : List Blk) (k : ByteArray) (hs : KSorted (bs.map Blk.last)) (hn : bs.length < 4611686018427387904) (hc : LastsAt w g bs) :
    Calls Try.prog 89 #[.slice (some ⟨g, 0, none⟩) bs.length c, .string k, .func (.func 90) #[] #[]] w
      (RetIdx (lb (bs.map Blk.last) k) w) := by
  have hle := lb_le (bs.map Blk.last) k
  rw [List.length_map] at hle
  obtain ⟨n, hn'⟩ : ∃ n, bs.length = n := ⟨_, rfl⟩
  obtain ⟨m, hm'⟩ : ∃ m, lb (bs.map Blk.last) k = m := ⟨_, rfl⟩
  have hlt : ∀ i (h : i < bs.length), KLt bs[i].last k ↔ i < m := fun i h => by
    rw [← hm', ← lb_lt_iff hs k i (by simpa using h), List.getElem_map]
  have HL : Hid (∀ i (h : i < bs.length), KLt bs[i].last k ↔ i < m) := hlt
  rw [hm', hn'] at hle
  rw [hn'] at hn ⊢
  rw [hm']
  have HN : Hid (bs.length = n) := hn'
  clear hlt hs hn' hm'
  go_enter Try.func89, Try.ntmps89
  go_wp2
  go_loop [9, 10] (fun s7 s8 => ∃ lo hi : Nat, s7 = .int .i64 lo ∧ s8 = .int .i64 hi ∧ lo ≤ m ∧ m ≤ hi ∧ hi ≤ n) (fun s7 s8 => (intOf s8).toNat - (intOf s7).toNat)
  case atStart => exact ⟨0, n, rfl, rfl, by omega, hle, by omega⟩
  case round =>
    obtain ⟨lo, hi, rfl, rfl, h1, h2, h3⟩ := hrel
    by_cases hlt : lo < hi
    · have hmid : (lo + hi) / 2 < n := by omega
      have hmk : (lo + hi) / 2 < bs.length := by rw [HN.out]; exact hmid
      have cm := hc.row _ hmk
      obtain ⟨q, e1, e2, cq⟩ := hc.key _ hmk
      have hl := HL.out _ hmk
      simp only [Blk.val, e1] at cm
      clear e1
      generalize bs[(lo + hi) / 2].last = y at *
      generalize bs[(lo + hi) / 2].g = bg at *
      generalize bs[(lo + hi) / 2].cap = bc at *
      by_cases hk : KLt y k
      · have hk1 : cmpB y k < 0 := (cmpB_lt _ _).2 hk
        have hl2 := hl.1 hk
        clear hl hk
        go_wp2_with (go_at_call 90; refine (findcl_any _ _ _ _ _ _ e2 cq).mono ?_; rintro e w' ⟨rfl, rfl⟩)
        go_round
        case rel => exact ⟨(lo + hi) / 2 + 1, hi, by go_num, rfl, by omega, by omega, by omega⟩
        case measure => simp [intOf]; omega
      · have hk1 : ¬ cmpB y k < 0 := fun e => hk ((cmpB_lt _ _).1 e)
        have hl2 : ¬ (lo + hi) / 2 < m := fun e => hk (hl.2 e)
        clear hl hk
        go_wp2_with (go_at_call 90; refine (findcl_any _ _ _ _ _ _ e2 cq).mono ?_; rintro e w' ⟨rfl, rfl⟩)
        go_round
        case rel => exact ⟨lo, (lo + hi) / 2, rfl, by go_num, by omega, by omega, by omega⟩
        case measure => simp [intOf]; omega
    · obtain rfl : hi = m := by omega
      obtain rfl : lo = hi := by omega
      by_cases hn2 : lo < n
      · have hmk : lo < bs.length := by rw [HN.out]; exact hn2
        have cm := hc.row _ hmk
        obtain ⟨q, e1, e2, cq⟩ := hc.key _ hmk
        simp only [Blk.val, e1] at cm
        clear e1 HL
        generalize bs[lo].last = y at *
        generalize bs[lo].g = bg at *
        generalize bs[lo].cap = bc at *
        by_cases hk : (cmpB y k == 0) = true
        · go_wp2_with (go_at_call 90; refine (findcl_any _ _ _ _ _ _ e2 cq).mono ?_; rintro e w' ⟨rfl, rfl⟩)
          go_ret2
          exact ⟨⟨_, rfl⟩, rfl⟩
        · have hk2 : (cmpB y k == 0) = false := by simpa using hk
          clear hk
          go_wp2_with (go_at_call 90; refine (findcl_any _ _ _ _ _ _ e2 cq).mono ?_; rintro e w' ⟨rfl, rfl⟩)
          go_ret2
          exact ⟨⟨_, rfl⟩, rfl⟩
      · go_wp2
        go_ret2
        exact ⟨⟨_, rfl⟩, rfl⟩

set_option maxHeartbeats 400000 in
/-- The row in which a key stands, or would. -/
theorem find_any (w : World) (b g c : Nat) (bs : List Blk) (k : ByteArray) (hs : KSorted (bs.map Blk.last)) (hn : bs.length < 4611686018427387904) (h0 : 0 < bs.length) (hb : w.cell? ⟨b, 2, none⟩ = some (.slice (some ⟨g, 0, none⟩) bs.length c)) (hc : LastsAt w g bs) :
    Calls Try.prog 70 #[.pointer (some ⟨b, 0, none⟩), .string k] w fun e w' => e = .returned (.int .i64 (min (lb (bs.map Blk.last) k) (bs.length - 1) : Nat)) ∧ w = w' := by
  have HS := Lib.hid (bsearchf_any w g c bs k hs hn hc)
  obtain ⟨n, hn'⟩ : ∃ n, bs.length = n := ⟨_, rfl⟩
  obtain ⟨m, hm'⟩ : ∃ m, lb (bs.map Blk.last) k = m := ⟨_, rfl⟩
  rw [hn', hm'] at HS
  rw [hn'] at hn h0 hb ⊢
  rw [hm']
  clear hn' hm' hc
  have e1 : ((n : Int) - 1) = ((n - 1 : Nat) : Int) := by omega
  go_enter Try.func70, Try.ntmps70
  go_wp2_with (go_at_call 89; refine HS.out.mono ?_; rintro e w' ⟨⟨f, rfl⟩, rfl⟩)
  all_goals (go_ret; exact ⟨ret_int (by omega), rfl⟩)
end Go.Proofs.Ytgnnnjabgoadaaa
