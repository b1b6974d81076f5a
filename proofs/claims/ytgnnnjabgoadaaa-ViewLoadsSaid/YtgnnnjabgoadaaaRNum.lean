/- What is proved here: the reference's Num: the eight bytes of a number that is not below nought. -/
import Derived.Test.YtgnnnjabgoadaaaNum
namespace Go.Proofs.Ytgnnnjabgoadaaa
open Go.RowKit

theorem bytesT : SliceT Try.prog 36 5 (.int .u8 0) 1 1 := ⟨by kernel_rfl, by kernel_rfl, rfl, by decide⟩

def bytesV (l : List UInt8) : List Value := l.map fun (b : UInt8) => Value.int .u8 (b.toNat : Int)
theorem bytesV_len (l : List UInt8) : (bytesV l).length = l.length := List.length_map _
theorem bytesV_one (l : List UInt8) : ∀ u ∈ bytesV l, u.oneCell' = true := by
  intro u hu
  obtain ⟨x, _, rfl⟩ := List.mem_map.1 hu
  rfl
theorem fold_bytes : ∀ (l : List UInt8) (s : ByteArray), (l.map (fun (b : UInt8) => (b.toNat : Int))).foldl (fun r n => r.push (UInt8.ofNat n.toNat)) s = ⟨(s.data.toList ++ l).toArray⟩
  | [], s => by cases s; simp
  | x :: l, s => by
    simp only [List.map_cons, List.foldl_cons]
    rw [fold_bytes l]
    cases s
    simp [ByteArray.push]

/-- Bytes in a slice, made a string. -/
theorem run_conv_own {w : World} {g n c : Nat} {l : List UInt8} (h : Own w 5 1 (.slice (some ⟨g, 0, none⟩) n c) n (bytesV l)) :
    (convert 36 9 (.slice (some ⟨g, 0, none⟩) n c)).run Try.prog w = .ok (.string ⟨l.toArray⟩) w := by
  have hl : l.length = n := by have := h.1; rw [bytesV_len] at this; omega
  rw [run_convert_bytes_string _ _ _ 5 _ _ _ (by kernel_rfl) (by kernel_rfl) (by kernel_rfl)]
  rw [run_bytesToString _ _ n c (l.map (fun (b : UInt8) => (b.toNat : Int)))]
  · rw [fold_bytes]
    simp
  · have := run_loadCells_list (P := Try.prog) w ⟨g, 0, none⟩ (bytesV l) (fun j v hj => h.cells (g := g) rfl j v hj)
    rw [bytesV_len, hl] at this
    simpa [bytesV, Function.comp_def] using this

theorem news_one (w : World) (x : Value) (t : TypeId) : ∀ j u, [x][j]? = some u → (w.alloc (.cells #[x] t)).cell? ((⟨w.heap.size, 0, none⟩ : Addr).add j) = some u := fun j u hj => by
  rw [Addr.add_lit, cell_of_row _ _ _ _ _ _ (heap_alloc_new w _)]
  simpa using hj
theorem one_u8 (x : Int) : ∀ u ∈ [Value.int .u8 x], u.oneCell' = true := by intro u hu; rw [List.mem_singleton.1 hu]; rfl

/-- A byte of a number in the making. -/
def NumTo (w : World) (n k : Nat) (v : Value) (wr : World) : Prop := Own wr 5 1 v k (bytesV ((be8 n).take k)) ∧ (∀ g, v.ownBlock = some g → w.heap.size ≤ g) ∧ Below w.heap.size w wr

theorem NumTo.next {w : World} {n k : Nat} {v : Value} {wr : World} (h : NumTo w n k v wr) (b : Int) (hb : (be8 n)[k]?.map (fun (b : UInt8) => (b.toNat : Int)) = some b) :
    ∃ xs, Own (wr.alloc (.cells #[.int .u8 b] 5)) 5 1 v k xs ∧ ∀ v' w', Appended (wr.alloc (.cells #[.int .u8 b] 5)) 5 1 v k 1 xs [.int .u8 b] v' w' → NumTo w n (k + 1) v' w' := by
  obtain ⟨h1, h2, h3⟩ := h
  refine ⟨_, h1.fr ((Fr.refl (fun _ => False) wr).alloc _) (fun _ _ => id), fun v' w' hA => ⟨?_, ?_, ?_⟩⟩
  · have := hA.own
    obtain ⟨x, hx, rfl⟩ := Option.map_eq_some_iff.1 hb
    rw [List.take_add_one, hx]
    simpa [bytesV] using this
  · intro g hg
    rcases hA.block g hg with h | h
    · exact h2 g h
    · have := h3.size
      simp at h
      omega
  · exact (h3.alloc h3.size _).grown hA.grown (Nat.le_trans h3.size (by simp)) h2

theorem NumTo.done {w : World} {n : Nat} {v : Value} {wr : World} (h : NumTo w n 8 v wr) : ∃ g c, v = .slice (some ⟨g, 0, none⟩) 8 c ∧ (convert 36 9 (.slice (some ⟨g, 0, none⟩) 8 c)).run Try.prog wr = .ok (.string (numB n)) wr ∧ Below w.heap.size w wr := by
  obtain ⟨h1, h2, h3⟩ := h
  have h4 := h1
  rcases h1.2 with ⟨_, h0⟩ | ⟨g, c, cur, rfl, _⟩
  · omega
  · exact ⟨g, c, rfl, by rw [run_conv_own h4]; rfl, h3⟩

set_option maxRecDepth 100000 in
set_option maxHeartbeats 2000000 in
theorem rnum_any (n : Nat) (w : World) (hn : n < 9223372036854775808) :
    Calls Try.prog 76 #[.int .i64 n] w fun e w' => e = .returned (.string (numB n)) ∧ Below w.heap.size w w' := by
  have H0 : Hid (NumTo w n 0 (.slice none 0 0) w) := ⟨Own.nil _ _ _, fun g hg => by simp [Value.ownBlock] at hg, Below.refl _ _⟩
  have hn0 : decide ((n : Int) < 0) = false := by simp
  go_enter Try.func76, Try.ntmps76
  go_wp2_with fail
  go_loopw [3, 4] (fun v i wr => ∃ k : Nat, k ≤ 8 ∧ i = .int .i64 (7 - (k : Int)) ∧ NumTo w n k v wr) (fun _ i _ => (intOf i + 1).toNat)
  case atStart => exact ⟨0, by omega, rfl, H0.out⟩
  case round =>
    obtain ⟨k, hk, rfl, hN⟩ := hrel
    have HN := Lib.hid hN
    clear hN H0
    rcases (by omega : k = 0 ∨ k = 1 ∨ k = 2 ∨ k = 3 ∨ k = 4 ∨ k = 5 ∨ k = 6 ∨ k = 7 ∨ k = 8) with rfl | rfl | rfl | rfl | rfl | rfl | rfl | rfl | rfl
    · obtain ⟨xs, ho, hst⟩ := HN.out.next ((n : Int) / 72057594037927936) (by simp [be8, oct8] <;> omega)
      have HO := Lib.hid ho
      have HST := Lib.hid hst
      clear ho hst
      go_wp2_with (at_builtin; refine wpList_append_Own rfl _ _ 36 36 rfl bytesT bytesT _ 0 xs rfl HO.out _ 1 _ [.int .u8 ((n : Int) / 72057594037927936)] rfl rfl (news_one _ _ _) (one_u8 _) (by decide) (by decide) ?_)
      intro v' w' hA
      have HR := Lib.hid (HST.out v' w' hA)
      clear hA
      go_wp2
      go_roundw
      case rel => exact ⟨1, by omega, by first | rfl | go_num, HR.out⟩
      case measure => simp [intOf]
    · obtain ⟨xs, ho, hst⟩ := HN.out.next ((n : Int) / 281474976710656 % 256) (by simp [be8, oct8] <;> omega)
      have HO := Lib.hid ho
      have HST := Lib.hid hst
      clear ho hst
      go_wp2_with (at_builtin; refine wpList_append_Own rfl _ _ 36 36 rfl bytesT bytesT _ 1 xs rfl HO.out _ 1 _ [.int .u8 ((n : Int) / 281474976710656 % 256)] rfl rfl (news_one _ _ _) (one_u8 _) (by decide) (by decide) ?_)
      intro v' w' hA
      have HR := Lib.hid (HST.out v' w' hA)
      clear hA
      go_wp2
      go_roundw
      case rel => exact ⟨2, by omega, by first | rfl | go_num, HR.out⟩
      case measure => simp [intOf]
    · obtain ⟨xs, ho, hst⟩ := HN.out.next ((n : Int) / 1099511627776 % 256) (by simp [be8, oct8] <;> omega)
      have HO := Lib.hid ho
      have HST := Lib.hid hst
      clear ho hst
      go_wp2_with (at_builtin; refine wpList_append_Own rfl _ _ 36 36 rfl bytesT bytesT _ 2 xs rfl HO.out _ 1 _ [.int .u8 ((n : Int) / 1099511627776 % 256)] rfl rfl (news_one _ _ _) (one_u8 _) (by decide) (by decide) ?_)
      intro v' w' hA
      have HR := Lib.hid (HST.out v' w' hA)
      clear hA
      go_wp2
      go_roundw
      case rel => exact ⟨3, by omega, by first | rfl | go_num, HR.out⟩
      case measure => simp [intOf]
    · obtain ⟨xs, ho, hst⟩ := HN.out.next ((n : Int) / 4294967296 % 256) (by simp [be8, oct8] <;> omega)
      have HO := Lib.hid ho
      have HST := Lib.hid hst
      clear ho hst
      go_wp2_with (at_builtin; refine wpList_append_Own rfl _ _ 36 36 rfl bytesT bytesT _ 3 xs rfl HO.out _ 1 _ [.int .u8 ((n : Int) / 4294967296 % 256)] rfl rfl (news_one _ _ _) (one_u8 _) (by decide) (by decide) ?_)
      intro v' w' hA
      have HR := Lib.hid (HST.out v' w' hA)
      clear hA
      go_wp2
      go_roundw
      case rel => exact ⟨4, by omega, by first | rfl | go_num, HR.out⟩
      case measure => simp [intOf]
    · obtain ⟨xs, ho, hst⟩ := HN.out.next ((n : Int) / 16777216 % 256) (by simp [be8, oct8] <;> omega)
      have HO := Lib.hid ho
      have HST := Lib.hid hst
      clear ho hst
      go_wp2_with (at_builtin; refine wpList_append_Own rfl _ _ 36 36 rfl bytesT bytesT _ 4 xs rfl HO.out _ 1 _ [.int .u8 ((n : Int) / 16777216 % 256)] rfl rfl (news_one _ _ _) (one_u8 _) (by decide) (by decide) ?_)
      intro v' w' hA
      have HR := Lib.hid (HST.out v' w' hA)
      clear hA
      go_wp2
      go_roundw
      case rel => exact ⟨5, by omega, by first | rfl | go_num, HR.out⟩
      case measure => simp [intOf]
    · obtain ⟨xs, ho, hst⟩ := HN.out.next ((n : Int) / 65536 % 256) (by simp [be8, oct8] <;> omega)
      have HO := Lib.hid ho
      have HST := Lib.hid hst
      clear ho hst
      go_wp2_with (at_builtin; refine wpList_append_Own rfl _ _ 36 36 rfl bytesT bytesT _ 5 xs rfl HO.out _ 1 _ [.int .u8 ((n : Int) / 65536 % 256)] rfl rfl (news_one _ _ _) (one_u8 _) (by decide) (by decide) ?_)
      intro v' w' hA
      have HR := Lib.hid (HST.out v' w' hA)
      clear hA
      go_wp2
      go_roundw
      case rel => exact ⟨6, by omega, by first | rfl | go_num, HR.out⟩
      case measure => simp [intOf]
    · obtain ⟨xs, ho, hst⟩ := HN.out.next ((n : Int) / 256 % 256) (by simp [be8, oct8] <;> omega)
      have HO := Lib.hid ho
      have HST := Lib.hid hst
      clear ho hst
      go_wp2_with (at_builtin; refine wpList_append_Own rfl _ _ 36 36 rfl bytesT bytesT _ 6 xs rfl HO.out _ 1 _ [.int .u8 ((n : Int) / 256 % 256)] rfl rfl (news_one _ _ _) (one_u8 _) (by decide) (by decide) ?_)
      intro v' w' hA
      have HR := Lib.hid (HST.out v' w' hA)
      clear hA
      go_wp2
      go_roundw
      case rel => exact ⟨7, by omega, by first | rfl | go_num, HR.out⟩
      case measure => simp [intOf]
    · obtain ⟨xs, ho, hst⟩ := HN.out.next ((n : Int) % 256) (by simp [be8, oct8] <;> omega)
      have HO := Lib.hid ho
      have HST := Lib.hid hst
      clear ho hst
      go_wp2_with (at_builtin; refine wpList_append_Own rfl _ _ 36 36 rfl bytesT bytesT _ 7 xs rfl HO.out _ 1 _ [.int .u8 ((n : Int) % 256)] rfl rfl (news_one _ _ _) (one_u8 _) (by decide) (by decide) ?_)
      intro v' w' hA
      have HR := Lib.hid (HST.out v' w' hA)
      clear hA
      go_wp2
      go_roundw
      case rel => exact ⟨8, by omega, by first | rfl | go_num, HR.out⟩
      case measure => simp [intOf]
    · obtain ⟨g, c, rfl, hcv, hb⟩ := HN.out.done
      have HB := Lib.hid hb
      clear hb
      go_wp2
      go_ret
      exact ⟨rfl, HB.out⟩
end Go.Proofs.Ytgnnnjabgoadaaa
