/- What is proved here: keys.Num: the eight bytes of a number that is not below nought. -/
import Derived.Test.YtgnnnjabgoadaaaMem
namespace Go.Proofs.Ytgnnnjabgoadaaa
open Go.RowKit

/-- The eight bytes of a number, the greatest first, as numbers. -/
def oct8 (n : Nat) : List Nat := [n / 72057594037927936, n / 281474976710656 % 256, n / 1099511627776 % 256, n / 4294967296 % 256, n / 16777216 % 256, n / 65536 % 256, n / 256 % 256, n % 256]
def be8 (n : Nat) : List UInt8 := (oct8 n).map UInt8.ofNat
def numB (n : Nat) : ByteArray := ⟨(be8 n).toArray⟩

theorem fold_push : ∀ (l : List Nat) (s : ByteArray), (l.map (fun (n : Nat) => (n : Int))).foldl (fun r n => r.push (UInt8.ofNat n.toNat)) s = ⟨(s.data.toList ++ l.map UInt8.ofNat).toArray⟩
  | [], s => by cases s; simp
  | x :: l, s => by
    simp only [List.map_cons, List.foldl_cons]
    rw [fold_push l]
    cases s
    simp [ByteArray.push]

theorem num_conv (n : Nat) (w : World) :
    (convert 36 9 (.slice (some ⟨w.heap.size, 0, none⟩) 8 8)).run Try.prog (w.alloc (.cells #[.int .u8 ((n : Int) / 72057594037927936), .int .u8 ((n : Int) / 281474976710656 % 256), .int .u8 ((n : Int) / 1099511627776 % 256), .int .u8 ((n : Int) / 4294967296 % 256), .int .u8 ((n : Int) / 16777216 % 256), .int .u8 ((n : Int) / 65536 % 256), .int .u8 ((n : Int) / 256 % 256), .int .u8 ((n : Int) % 256)] 115)) =
      .ok (.string (numB n)) (w.alloc (.cells #[.int .u8 ((n : Int) / 72057594037927936), .int .u8 ((n : Int) / 281474976710656 % 256), .int .u8 ((n : Int) / 1099511627776 % 256), .int .u8 ((n : Int) / 4294967296 % 256), .int .u8 ((n : Int) / 16777216 % 256), .int .u8 ((n : Int) / 65536 % 256), .int .u8 ((n : Int) / 256 % 256), .int .u8 ((n : Int) % 256)] 115)) := by
  rw [run_convert_bytes_string _ _ _ 5 _ _ _ (by kernel_rfl) (by kernel_rfl) (by kernel_rfl)]
  have h1 : ∀ c : Nat, (n : Int) / (c : Int) = ((n / c : Nat) : Int) := fun c => by simp
  rw [run_bytesToString _ _ 8 8 ((oct8 n).map (fun (n : Nat) => (n : Int)))]
  · rw [fold_push]
    simp [numB, be8]
  · have := run_loadCells_list (P := Try.prog) (w.alloc (.cells #[.int .u8 ((n : Int) / 72057594037927936), .int .u8 ((n : Int) / 281474976710656 % 256), .int .u8 ((n : Int) / 1099511627776 % 256), .int .u8 ((n : Int) / 4294967296 % 256), .int .u8 ((n : Int) / 16777216 % 256), .int .u8 ((n : Int) / 65536 % 256), .int .u8 ((n : Int) / 256 % 256), .int .u8 ((n : Int) % 256)] 115)) ⟨w.heap.size, 0, none⟩
      [.int .u8 ((n : Int) / 72057594037927936), .int .u8 ((n : Int) / 281474976710656 % 256), .int .u8 ((n : Int) / 1099511627776 % 256), .int .u8 ((n : Int) / 4294967296 % 256), .int .u8 ((n : Int) / 16777216 % 256), .int .u8 ((n : Int) / 65536 % 256), .int .u8 ((n : Int) / 256 % 256), .int .u8 ((n : Int) % 256)]
      (fun j v hj => by rw [Addr.add_lit, cell_of_row _ _ _ _ _ _ (heap_alloc_new w _)]; simpa using hj)
    simpa [oct8] using this

set_option maxRecDepth 100000 in
set_option maxHeartbeats 1000000 in
theorem num_any (n : Nat) (w : World) (hn : n < 9223372036854775808) :
    Calls Try.prog 57 #[.int .i64 n] w fun e w' => e = .returned (.string (numB n)) ∧ Below w.heap.size w w' := by
  have hcv := num_conv n w
  have hb : ∀ o, Below w.heap.size w (w.alloc o) := fun o => (Below.refl _ w).alloc (Nat.le_refl _) o
  have HB := Lib.hid hb
  clear hb
  go_enter Try.func57, Try.ntmps57
  go_wp2
  go_rounds 9
  go_ret
  exact ⟨rfl, HB.out _⟩
end Go.Proofs.Ytgnnnjabgoadaaa
