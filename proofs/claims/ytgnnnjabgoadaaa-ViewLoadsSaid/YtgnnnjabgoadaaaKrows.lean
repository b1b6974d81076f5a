/- What is proved here: a store's rows of keys in memory; slices.Insert of one element in one statement; slices.Clone of a row's end. -/
import Derived.Test.YtgnnnjabgoadaaaInsertB
import Derived.Test.YtgnnnjabgoadaaaDelete
import Derived.Test.YtgnnnjabgoadaaaMap
namespace Go.Proofs.Ytgnnnjabgoadaaa
open Go.RowKit

def strs (l : List ByteArray) : List Value := l.map Value.string
theorem strs_len (l : List ByteArray) : (strs l).length = l.length := List.length_map _
theorem strs_one (l : List ByteArray) : ∀ u ∈ strs l, u.oneCell' = true := by
  intro u hu
  obtain ⟨x, _, rfl⟩ := List.mem_map.1 hu
  rfl
theorem vals_one (l : List Blk) : ∀ u ∈ l.map Blk.val, u.oneCell' = true := by
  intro u hu
  obtain ⟨x, _, rfl⟩ := List.mem_map.1 hu
  rfl

theorem insK_all (w : World) (g c : Nat) (xs : List ByteArray) (vb : Nat) (x : ByteArray) (i : Nat) (hi : i ≤ xs.length)
    (ho : Own w 9 1 (.slice (some ⟨g, 0, none⟩) xs.length c) xs.length (strs xs))
    (hv : w.heap[vb]? = some (.cells #[.string x] 9 (0, 0))) (hvg : vb ≠ g) (hb : xs.length < 1099511627776) :
    Calls Try.prog 84 #[.slice (some ⟨g, 0, none⟩) xs.length c, .int .i64 i, .slice (some ⟨vb, 0, none⟩) 1 1] w (RetIns w 9 g i (.string x) (strs xs)) := by
  rcases ho.2 with ⟨h, _⟩ | ⟨g', c', cur, h, hg, hnc, hcm, hcs, hx⟩
  · cases h
  · cases h
    rw [Nat.mul_one] at hcs hx
    rcases Nat.eq_or_lt_of_le hi with rfl | hi
    · exact insK_end w g c cur (strs xs) vb (.string x) xs.length (strs_len xs).symm hg hnc hcm hcs hx hv rfl hb
    · by_cases hr : xs.length + 1 ≤ c
      · exact insK_shift w g c cur (strs xs) vb (.string x) xs.length i (strs_len xs).symm hi hg hnc hcm hcs hx hr hv hvg rfl (strs_one xs) hb
      · exact insK_grow w g c cur (strs xs) vb (.string x) xs.length i (strs_len xs).symm hi hg hnc hcm hcs hx (by omega) hv rfl (strs_one xs) hb

theorem insB_all (w : World) (g c : Nat) (xs : List Blk) (vb : Nat) (x : Value) (i : Nat) (hi : i ≤ xs.length)
    (ho : Own w 109 1 (.slice (some ⟨g, 0, none⟩) xs.length c) xs.length (xs.map Blk.val))
    (hv : w.heap[vb]? = some (.cells #[x] 109 (0, 0))) (hvg : vb ≠ g) (hx1 : x.oneCell' = true) (hb : xs.length < 1099511627776) :
    Calls Try.prog 85 #[.slice (some ⟨g, 0, none⟩) xs.length c, .int .i64 i, .slice (some ⟨vb, 0, none⟩) 1 1] w (RetIns w 109 g i x (xs.map Blk.val)) := by
  have hl : xs.length = (xs.map Blk.val).length := by simp
  rcases ho.2 with ⟨h, _⟩ | ⟨g', c', cur, h, hg, hnc, hcm, hcs, hx⟩
  · cases h
  · cases h
    rw [Nat.mul_one] at hcs hx
    rcases Nat.eq_or_lt_of_le hi with rfl | hi
    · exact insB_end w g c cur (xs.map Blk.val) vb x xs.length hl hg hnc hcm hcs hx hv hx1 hb
    · by_cases hr : xs.length + 1 ≤ c
      · exact insB_shift w g c cur (xs.map Blk.val) vb x xs.length i hl hi hg hnc hcm hcs hx hr hv hvg hx1 (vals_one xs) hb
      · exact insB_grow w g c cur (xs.map Blk.val) vb x xs.length i hl hi hg hnc hcm hcs hx (by omega) hv hx1 (vals_one xs) hb

/-- A new slice of the call's own. -/
structure Cloned (w : World) (e : TypeId) (xs : List Value) (v' : Value) (w' : World) : Prop where
  own : Own w' e 1 v' xs.length xs
  fr : Fr (fun _ => False) w w'
  block : ∀ k, v'.ownBlock = some k → w.heap.size ≤ k

def RetClone (w : World) (e : TypeId) (xs : List Value) (en : Ending) (w' : World) : Prop := ∃ v', en = .returned v' ∧ Cloned w e xs v' w'

set_option maxHeartbeats 400000 in
theorem cloneK_any (w : World) (a : Addr) (c : Nat) (xs : List ByteArray)
    (hc : ∀ j u, (strs xs)[j]? = some u → w.cell? (a.add j) = some u) (hb : xs.length < 1099511627776) :
    Calls Try.prog 86 #[.slice (some a) xs.length c] w (RetClone w 9 (strs xs)) := by
  have hown : Own (w.alloc (.cells #[] 9)) 9 1 (.slice (some ⟨w.heap.size, 0, none⟩) 0 0) 0 [] :=
    ⟨rfl, .inr ⟨w.heap.size, 0, #[], rfl, heap_alloc_new w _, Nat.le_refl _, Nat.zero_le _, Nat.zero_le _, rfl⟩⟩
  have hc' : ∀ j u, (strs xs)[j]? = some u → (w.alloc (.cells #[] 9)).cell? (a.add j) = some u := fun j u hj => by
    have h1 := hc j u hj
    rw [World.cell?_of_block (heap_alloc_old w _ (World.block_lt_of_cell? w _ h1))]
    exact h1
  have hmx : 0 + xs.length ≤ maxLen := by unfold maxLen; omega
  have HL := Lib.hid (strs_len xs)
  obtain ⟨n, hn⟩ : ∃ n, xs.length = n := ⟨_, rfl⟩
  rw [hn] at hmx HL hb ⊢
  clear hc hn
  have hsn := fun (w : World) => Lib.run_eql_slice_nil (P := Try.prog) w 109 9 (some a) n c 0 0 insKT.und
  go_enter Try.func86, Try.ntmps86
  go_wp2_with (at_builtin; refine wpList_append_Own rfl _ _ 109 109 rfl insKT insKT _ 0 [] rfl hown _ n _ (strs xs) rfl (by rw [HL.out]; omega) hc' (strs_one xs) hmx (by omega) ?_)
  intro v' w' hA
  go_wp2
  go_ret
  have hO := hA.own
  refine ⟨_, rfl, ?_, ?_, ?_⟩
  · rw [HL.out]; simpa using hO
  · exact ((Fr.refl _ w).alloc _).grown hA.grown (fun k hk => by simp [Value.ownBlock] at hk; exact .inl (by omega))
  · intro k hk
    rcases hA.block k hk with h | h
    · simp [Value.ownBlock] at h; omega
    · simp at h; omega

end Go.Proofs.Ytgnnnjabgoadaaa
