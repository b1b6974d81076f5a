/- What is proved here: keys.Nums at no byte, and at the eight bytes of a number. -/
import Derived.Test.YtgnnnjabgoadaaaNum
import Derived.Test.YtgnnnjabgoadaaaPlain
namespace Go.Proofs.Ytgnnnjabgoadaaa
open Go.RowKit

def RetNums (w : World) (ns : List Nat) (e : Ending) (w' : World) : Prop := ∃ v, e = .returned (.tuple #[v, .bool true]) ∧ Own w' 3 1 v ns.length (ns.map fun (n : Nat) => Value.int .i64 n) ∧ Below w.heap.size w w'

set_option maxRecDepth 100000 in
set_option maxHeartbeats 1000000 in
theorem nums_none (w : World) : Calls Try.prog 82 #[.string emptyB] w fun e w' => e = .returned (.tuple #[.slice none 0 0, .bool true]) ∧ w = w' := by
  unfold emptyB
  go_enter Try.func82, Try.ntmps82
  go_wp2
  go_rounds 1
  go_ret2
  exact ⟨rfl, rfl⟩

theorem or_step (x b : Nat) (hx : x < 72057594037927936) (hb : b < 256) : bits BinOp.or IntKind.u64 ((x : Int) * 256) (IntKind.u64.wrap (b : Int)) = ((x * 256 + b : Nat) : Int) := by
  have h1 : ((x : Int) * 256) = ((x * 256 : Nat) : Int) := by omega
  have h2 : IntKind.u64.wrap (b : Int) = (b : Int) := by rw [IntKind.wrap_u64]; omega
  rw [h1, h2, bits_or_u64_nat _ _ (by omega) (by omega)]
  congr 1
  have := Nat.two_pow_add_eq_or_of_lt (i := 8) (b := b) hb x
  rw [Nat.mul_comm] at this
  exact this.symm

theorem numB_byte (n : Nat) (i : Nat) (h : i < 8) (h' : i < (numB n).size) : ((numB n)[i]'h').toNat = n / 256 ^ (7 - i) % 256 := by
  have e : ∀ k : Nat, (UInt8.ofNat k).toNat = k % 256 := fun k => by simp
  match i, h with
  | 0, _ => show (UInt8.ofNat (n / 72057594037927936)).toNat = _; rw [e]
  | 1, _ => show (UInt8.ofNat (n / 281474976710656 % 256)).toNat = _; rw [e, Nat.mod_mod]
  | 2, _ => show (UInt8.ofNat (n / 1099511627776 % 256)).toNat = _; rw [e, Nat.mod_mod]
  | 3, _ => show (UInt8.ofNat (n / 4294967296 % 256)).toNat = _; rw [e, Nat.mod_mod]
  | 4, _ => show (UInt8.ofNat (n / 16777216 % 256)).toNat = _; rw [e, Nat.mod_mod]
  | 5, _ => show (UInt8.ofNat (n / 65536 % 256)).toNat = _; rw [e, Nat.mod_mod]
  | 6, _ => show (UInt8.ofNat (n / 256 % 256)).toNat = _; rw [e, Nat.mod_mod]
  | 7, _ => show (UInt8.ofNat (n % 256)).toNat = _; rw [e, Nat.mod_mod]; simp

theorem num_step (n : Nat) (i : Nat) (h : i < 8) : n / 256 ^ (8 - (i + 1)) = n / 256 ^ (8 - i) * 256 + n / 256 ^ (7 - i) % 256 := by
  have h1 : 8 - i = (7 - i) + 1 := by omega
  have h2 : 8 - (i + 1) = 7 - i := by omega
  rw [h1, h2, Nat.pow_succ, ← Nat.div_div_eq_div_mul]
  have := Nat.div_add_mod (n / 256 ^ (7 - i)) 256
  omega

theorem num_small (n : Nat) (hn : n < 9223372036854775808) (i : Nat) (h : i < 8) : n / 256 ^ (8 - i) < 72057594037927936 := by
  have h1 : 8 - i = (7 - i) + 1 := by omega
  rw [h1, Nat.pow_succ, Nat.mul_comm, ← Nat.div_div_eq_div_mul]
  exact Nat.lt_of_le_of_lt (Nat.div_le_self _ _) (by omega)

theorem intT : SliceT Try.prog 55 3 (.int .i64 0) 1 8 := ⟨by kernel_rfl, by kernel_rfl, rfl, by decide⟩

set_option maxRecDepth 100000 in
set_option maxHeartbeats 1000000 in
theorem nums_one (n : Nat) (hn : n < 9223372036854775808) (w : World) : Calls Try.prog 82 #[.string (numB n)] w (RetNums w [n]) := by
  have hs : (numB n).size = 8 := rfl
  have hone : ∀ u ∈ [Value.int .i64 (n : Int)], u.oneCell' = true := by intro u hu; rw [List.mem_singleton.1 hu]; rfl
  go_enter Try.func82, Try.ntmps82
  go_wp2
  refine wp_loop_rounds 2 ?_
  rw [rounds_succ]
  go_wp2
  go_loop [6, 7, 18] (fun x _ c => ∃ i : Nat, i ≤ 8 ∧ c = .int .i64 i ∧ x = .int .u64 (n / 256 ^ (8 - i) : Nat)) (fun _ _ c => 8 - (intOf c).toNat)
  case atStart => exact ⟨0, by omega, rfl, by rw [Nat.div_eq_of_lt (by omega)]; rfl⟩
  case round =>
    obtain ⟨i, hi, rfl, rfl⟩ := hrel
    by_cases hlt : i < 8
    · obtain ⟨x, hx⟩ : ∃ x, n / 256 ^ (8 - i) = x := ⟨_, rfl⟩
      have HX := Lib.hid hx
      have hsm := num_small n hn i hlt
      rw [hx] at hsm ⊢
      clear hx
      go_wp2
      go_round
      case rel => exact ⟨i + 1, by omega, by go_num, by rw [or_step x _ hsm (UInt8.toNat_lt _), numB_byte n i hlt, num_step n i hlt, HX.out]⟩
      case measure => simp [intOf]; omega
    · obtain rfl : i = 8 := by omega
      rw [show n / 256 ^ (8 - 8) = n by simp]
      go_wp2_with (at_builtin; refine wpList_append_Own rfl _ _ 55 55 rfl intT intT _ 0 [] rfl (Own.nil _ _ _) _ 1 _ [.int .i64 n] rfl rfl ?hnews hone (by decide) (by decide) ?_)
      intro v' w' hA
      go_wp2
      rw [rounds_succ]
      go_wp2
      go_ret2
      exact ⟨_, rfl, by simpa using hA.own, ((Below.refl _ _).alloc (Nat.le_refl _) _).grown hA.grown (by simp) (fun k h => by cases h)⟩
end Go.Proofs.Ytgnnnjabgoadaaa
