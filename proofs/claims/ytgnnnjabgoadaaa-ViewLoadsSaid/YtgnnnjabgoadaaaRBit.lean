/- What is proved here: the reference's own table of bits. -/
import Derived.Test.YtgnnnjabgoadaaaPauseB
namespace Go.Proofs.Ytgnnnjabgoadaaa
open Go.RowKit

theorem alloc_heap (w : World) (o : Obj) : (w.alloc o).heap = w.heap.push o := rfl
theorem push_at {α : Type} (a : Array α) (x : α) (i : Nat) (h : i = a.size) : (a.push x)[i]? = some x := by subst h; simp
theorem push_lt {α : Type} (a : Array α) (x : α) (i : Nat) (h : i < a.size) : (a.push x)[i]? = a[i]? := by rw [Array.getElem?_push, if_neg (by omega)]

def bitGr : List (List Int) := [[6, 7], [8, 9, 10, 11], [12, 13], [15, 16, 17, 18, 19, 20], [14, 21], [22], [23, 24, 25, 26, 27, 28], [5]]
/-- The table's rows lie in memory from block N on. -/
def BitCells (N : Nat) (wr : World) : Prop := ∀ g j v, (bitGr[g]?.bind fun l => l[j]?) = some v → wr.cell? ⟨N + g, j, none⟩ = some (.int .i64 v)
/-- None of the first k rows holds i. -/
def BitNot (i : Int) (k : Nat) : Prop := k ≤ 8 ∧ ∀ v ∈ (bitGr.take k).flatten, ¬ v = i
theorem idx8_0 (N : Nat) (w : World) : (Instr.index 89 (.agg #[.slice (some ⟨N, 0, none⟩) 2 2, .slice (some ⟨N + 1, 0, none⟩) 4 4, .slice (some ⟨N + 1 + 1, 0, none⟩) 2 2, .slice (some ⟨N + 1 + 1 + 1, 0, none⟩) 6 6, .slice (some ⟨N + 1 + 1 + 1 + 1, 0, none⟩) 2 2, .slice (some ⟨N + 1 + 1 + 1 + 1 + 1, 0, none⟩) 1 1, .slice (some ⟨N + 1 + 1 + 1 + 1 + 1 + 1, 0, none⟩) 6 6, .slice (some ⟨N + 1 + 1 + 1 + 1 + 1 + 1 + 1, 0, none⟩) 1 1]) (.int .i64 0)).run Try.prog w = .ok (.slice (some ⟨N, 0, none⟩) 2 2) w := by kernel_rfl
theorem idx8_1 (N : Nat) (w : World) : (Instr.index 89 (.agg #[.slice (some ⟨N, 0, none⟩) 2 2, .slice (some ⟨N + 1, 0, none⟩) 4 4, .slice (some ⟨N + 1 + 1, 0, none⟩) 2 2, .slice (some ⟨N + 1 + 1 + 1, 0, none⟩) 6 6, .slice (some ⟨N + 1 + 1 + 1 + 1, 0, none⟩) 2 2, .slice (some ⟨N + 1 + 1 + 1 + 1 + 1, 0, none⟩) 1 1, .slice (some ⟨N + 1 + 1 + 1 + 1 + 1 + 1, 0, none⟩) 6 6, .slice (some ⟨N + 1 + 1 + 1 + 1 + 1 + 1 + 1, 0, none⟩) 1 1]) (.int .i64 1)).run Try.prog w = .ok (.slice (some ⟨N + 1, 0, none⟩) 4 4) w := by kernel_rfl
theorem idx8_2 (N : Nat) (w : World) : (Instr.index 89 (.agg #[.slice (some ⟨N, 0, none⟩) 2 2, .slice (some ⟨N + 1, 0, none⟩) 4 4, .slice (some ⟨N + 1 + 1, 0, none⟩) 2 2, .slice (some ⟨N + 1 + 1 + 1, 0, none⟩) 6 6, .slice (some ⟨N + 1 + 1 + 1 + 1, 0, none⟩) 2 2, .slice (some ⟨N + 1 + 1 + 1 + 1 + 1, 0, none⟩) 1 1, .slice (some ⟨N + 1 + 1 + 1 + 1 + 1 + 1, 0, none⟩) 6 6, .slice (some ⟨N + 1 + 1 + 1 + 1 + 1 + 1 + 1, 0, none⟩) 1 1]) (.int .i64 2)).run Try.prog w = .ok (.slice (some ⟨N + 1 + 1, 0, none⟩) 2 2) w := by kernel_rfl
theorem idx8_3 (N : Nat) (w : World) : (Instr.index 89 (.agg #[.slice (some ⟨N, 0, none⟩) 2 2, .slice (some ⟨N + 1, 0, none⟩) 4 4, .slice (some ⟨N + 1 + 1, 0, none⟩) 2 2, .slice (some ⟨N + 1 + 1 + 1, 0, none⟩) 6 6, .slice (some ⟨N + 1 + 1 + 1 + 1, 0, none⟩) 2 2, .slice (some ⟨N + 1 + 1 + 1 + 1 + 1, 0, none⟩) 1 1, .slice (some ⟨N + 1 + 1 + 1 + 1 + 1 + 1, 0, none⟩) 6 6, .slice (some ⟨N + 1 + 1 + 1 + 1 + 1 + 1 + 1, 0, none⟩) 1 1]) (.int .i64 3)).run Try.prog w = .ok (.slice (some ⟨N + 1 + 1 + 1, 0, none⟩) 6 6) w := by kernel_rfl
theorem idx8_4 (N : Nat) (w : World) : (Instr.index 89 (.agg #[.slice (some ⟨N, 0, none⟩) 2 2, .slice (some ⟨N + 1, 0, none⟩) 4 4, .slice (some ⟨N + 1 + 1, 0, none⟩) 2 2, .slice (some ⟨N + 1 + 1 + 1, 0, none⟩) 6 6, .slice (some ⟨N + 1 + 1 + 1 + 1, 0, none⟩) 2 2, .slice (some ⟨N + 1 + 1 + 1 + 1 + 1, 0, none⟩) 1 1, .slice (some ⟨N + 1 + 1 + 1 + 1 + 1 + 1, 0, none⟩) 6 6, .slice (some ⟨N + 1 + 1 + 1 + 1 + 1 + 1 + 1, 0, none⟩) 1 1]) (.int .i64 4)).run Try.prog w = .ok (.slice (some ⟨N + 1 + 1 + 1 + 1, 0, none⟩) 2 2) w := by kernel_rfl
theorem idx8_5 (N : Nat) (w : World) : (Instr.index 89 (.agg #[.slice (some ⟨N, 0, none⟩) 2 2, .slice (some ⟨N + 1, 0, none⟩) 4 4, .slice (some ⟨N + 1 + 1, 0, none⟩) 2 2, .slice (some ⟨N + 1 + 1 + 1, 0, none⟩) 6 6, .slice (some ⟨N + 1 + 1 + 1 + 1, 0, none⟩) 2 2, .slice (some ⟨N + 1 + 1 + 1 + 1 + 1, 0, none⟩) 1 1, .slice (some ⟨N + 1 + 1 + 1 + 1 + 1 + 1, 0, none⟩) 6 6, .slice (some ⟨N + 1 + 1 + 1 + 1 + 1 + 1 + 1, 0, none⟩) 1 1]) (.int .i64 5)).run Try.prog w = .ok (.slice (some ⟨N + 1 + 1 + 1 + 1 + 1, 0, none⟩) 1 1) w := by kernel_rfl
theorem idx8_6 (N : Nat) (w : World) : (Instr.index 89 (.agg #[.slice (some ⟨N, 0, none⟩) 2 2, .slice (some ⟨N + 1, 0, none⟩) 4 4, .slice (some ⟨N + 1 + 1, 0, none⟩) 2 2, .slice (some ⟨N + 1 + 1 + 1, 0, none⟩) 6 6, .slice (some ⟨N + 1 + 1 + 1 + 1, 0, none⟩) 2 2, .slice (some ⟨N + 1 + 1 + 1 + 1 + 1, 0, none⟩) 1 1, .slice (some ⟨N + 1 + 1 + 1 + 1 + 1 + 1, 0, none⟩) 6 6, .slice (some ⟨N + 1 + 1 + 1 + 1 + 1 + 1 + 1, 0, none⟩) 1 1]) (.int .i64 6)).run Try.prog w = .ok (.slice (some ⟨N + 1 + 1 + 1 + 1 + 1 + 1, 0, none⟩) 6 6) w := by kernel_rfl
theorem idx8_7 (N : Nat) (w : World) : (Instr.index 89 (.agg #[.slice (some ⟨N, 0, none⟩) 2 2, .slice (some ⟨N + 1, 0, none⟩) 4 4, .slice (some ⟨N + 1 + 1, 0, none⟩) 2 2, .slice (some ⟨N + 1 + 1 + 1, 0, none⟩) 6 6, .slice (some ⟨N + 1 + 1 + 1 + 1, 0, none⟩) 2 2, .slice (some ⟨N + 1 + 1 + 1 + 1 + 1, 0, none⟩) 1 1, .slice (some ⟨N + 1 + 1 + 1 + 1 + 1 + 1, 0, none⟩) 6 6, .slice (some ⟨N + 1 + 1 + 1 + 1 + 1 + 1 + 1, 0, none⟩) 1 1]) (.int .i64 7)).run Try.prog w = .ok (.slice (some ⟨N + 1 + 1 + 1 + 1 + 1 + 1 + 1, 0, none⟩) 1 1) w := by kernel_rfl

theorem bitCells_at (w : World) (a8 : Obj) : BitCells w.heap.size (((((((((w.alloc (.cells #[.int .i64 6, .int .i64 7] 3)).alloc (.cells #[.int .i64 8, .int .i64 9, .int .i64 10, .int .i64 11] 3)).alloc (.cells #[.int .i64 12, .int .i64 13] 3)).alloc (.cells #[.int .i64 15, .int .i64 16, .int .i64 17, .int .i64 18, .int .i64 19, .int .i64 20] 3)).alloc (.cells #[.int .i64 14, .int .i64 21] 3)).alloc (.cells #[.int .i64 22] 3)).alloc (.cells #[.int .i64 23, .int .i64 24, .int .i64 25, .int .i64 26, .int .i64 27, .int .i64 28] 3)).alloc (.cells #[.int .i64 5] 3)).alloc a8) := by
  intro g j v h
  match g, h with
  | 0, h =>
    have hg : (((((((((w.alloc (.cells #[.int .i64 6, .int .i64 7] 3)).alloc (.cells #[.int .i64 8, .int .i64 9, .int .i64 10, .int .i64 11] 3)).alloc (.cells #[.int .i64 12, .int .i64 13] 3)).alloc (.cells #[.int .i64 15, .int .i64 16, .int .i64 17, .int .i64 18, .int .i64 19, .int .i64 20] 3)).alloc (.cells #[.int .i64 14, .int .i64 21] 3)).alloc (.cells #[.int .i64 22] 3)).alloc (.cells #[.int .i64 23, .int .i64 24, .int .i64 25, .int .i64 26, .int .i64 27, .int .i64 28] 3)).alloc (.cells #[.int .i64 5] 3)).alloc a8).heap[w.heap.size + 0]? = some (.cells #[.int .i64 6, .int .i64 7] 3 (0, 0)) := by
      simp only [alloc_heap]
      repeat rw [push_lt _ _ _ (by first | omega | (simp only [Array.size_push]; omega))]
      rw [push_at _ _ _ (by first | omega | (simp only [Array.size_push]; first | done | omega))]
    rw [cell_of_row _ _ _ _ _ _ hg]
    simp only [bitGr] at h
    match j, h with
    | 0, h => simp at h; subst h; rfl
    | 1, h => simp at h; subst h; rfl
    | _ + 2, h => simp at h
  | 1, h =>
    have hg : (((((((((w.alloc (.cells #[.int .i64 6, .int .i64 7] 3)).alloc (.cells #[.int .i64 8, .int .i64 9, .int .i64 10, .int .i64 11] 3)).alloc (.cells #[.int .i64 12, .int .i64 13] 3)).alloc (.cells #[.int .i64 15, .int .i64 16, .int .i64 17, .int .i64 18, .int .i64 19, .int .i64 20] 3)).alloc (.cells #[.int .i64 14, .int .i64 21] 3)).alloc (.cells #[.int .i64 22] 3)).alloc (.cells #[.int .i64 23, .int .i64 24, .int .i64 25, .int .i64 26, .int .i64 27, .int .i64 28] 3)).alloc (.cells #[.int .i64 5] 3)).alloc a8).heap[w.heap.size + 1]? = some (.cells #[.int .i64 8, .int .i64 9, .int .i64 10, .int .i64 11] 3 (0, 0)) := by
      simp only [alloc_heap]
      repeat rw [push_lt _ _ _ (by first | omega | (simp only [Array.size_push]; omega))]
      rw [push_at _ _ _ (by first | omega | (simp only [Array.size_push]; first | done | omega))]
    rw [cell_of_row _ _ _ _ _ _ hg]
    simp only [bitGr] at h
    match j, h with
    | 0, h => simp at h; subst h; rfl
    | 1, h => simp at h; subst h; rfl
    | 2, h => simp at h; subst h; rfl
    | 3, h => simp at h; subst h; rfl
    | _ + 4, h => simp at h
  | 2, h =>
    have hg : (((((((((w.alloc (.cells #[.int .i64 6, .int .i64 7] 3)).alloc (.cells #[.int .i64 8, .int .i64 9, .int .i64 10, .int .i64 11] 3)).alloc (.cells #[.int .i64 12, .int .i64 13] 3)).alloc (.cells #[.int .i64 15, .int .i64 16, .int .i64 17, .int .i64 18, .int .i64 19, .int .i64 20] 3)).alloc (.cells #[.int .i64 14, .int .i64 21] 3)).alloc (.cells #[.int .i64 22] 3)).alloc (.cells #[.int .i64 23, .int .i64 24, .int .i64 25, .int .i64 26, .int .i64 27, .int .i64 28] 3)).alloc (.cells #[.int .i64 5] 3)).alloc a8).heap[w.heap.size + 2]? = some (.cells #[.int .i64 12, .int .i64 13] 3 (0, 0)) := by
      simp only [alloc_heap]
      repeat rw [push_lt _ _ _ (by first | omega | (simp only [Array.size_push]; omega))]
      rw [push_at _ _ _ (by first | omega | (simp only [Array.size_push]; first | done | omega))]
    rw [cell_of_row _ _ _ _ _ _ hg]
    simp only [bitGr] at h
    match j, h with
    | 0, h => simp at h; subst h; rfl
    | 1, h => simp at h; subst h; rfl
    | _ + 2, h => simp at h
  | 3, h =>
    have hg : (((((((((w.alloc (.cells #[.int .i64 6, .int .i64 7] 3)).alloc (.cells #[.int .i64 8, .int .i64 9, .int .i64 10, .int .i64 11] 3)).alloc (.cells #[.int .i64 12, .int .i64 13] 3)).alloc (.cells #[.int .i64 15, .int .i64 16, .int .i64 17, .int .i64 18, .int .i64 19, .int .i64 20] 3)).alloc (.cells #[.int .i64 14, .int .i64 21] 3)).alloc (.cells #[.int .i64 22] 3)).alloc (.cells #[.int .i64 23, .int .i64 24, .int .i64 25, .int .i64 26, .int .i64 27, .int .i64 28] 3)).alloc (.cells #[.int .i64 5] 3)).alloc a8).heap[w.heap.size + 3]? = some (.cells #[.int .i64 15, .int .i64 16, .int .i64 17, .int .i64 18, .int .i64 19, .int .i64 20] 3 (0, 0)) := by
      simp only [alloc_heap]
      repeat rw [push_lt _ _ _ (by first | omega | (simp only [Array.size_push]; omega))]
      rw [push_at _ _ _ (by first | omega | (simp only [Array.size_push]; first | done | omega))]
    rw [cell_of_row _ _ _ _ _ _ hg]
    simp only [bitGr] at h
    match j, h with
    | 0, h => simp at h; subst h; rfl
    | 1, h => simp at h; subst h; rfl
    | 2, h => simp at h; subst h; rfl
    | 3, h => simp at h; subst h; rfl
    | 4, h => simp at h; subst h; rfl
    | 5, h => simp at h; subst h; rfl
    | _ + 6, h => simp at h
  | 4, h =>
    have hg : (((((((((w.alloc (.cells #[.int .i64 6, .int .i64 7] 3)).alloc (.cells #[.int .i64 8, .int .i64 9, .int .i64 10, .int .i64 11] 3)).alloc (.cells #[.int .i64 12, .int .i64 13] 3)).alloc (.cells #[.int .i64 15, .int .i64 16, .int .i64 17, .int .i64 18, .int .i64 19, .int .i64 20] 3)).alloc (.cells #[.int .i64 14, .int .i64 21] 3)).alloc (.cells #[.int .i64 22] 3)).alloc (.cells #[.int .i64 23, .int .i64 24, .int .i64 25, .int .i64 26, .int .i64 27, .int .i64 28] 3)).alloc (.cells #[.int .i64 5] 3)).alloc a8).heap[w.heap.size + 4]? = some (.cells #[.int .i64 14, .int .i64 21] 3 (0, 0)) := by
      simp only [alloc_heap]
      repeat rw [push_lt _ _ _ (by first | omega | (simp only [Array.size_push]; omega))]
      rw [push_at _ _ _ (by first | omega | (simp only [Array.size_push]; first | done | omega))]
    rw [cell_of_row _ _ _ _ _ _ hg]
    simp only [bitGr] at h
    match j, h with
    | 0, h => simp at h; subst h; rfl
    | 1, h => simp at h; subst h; rfl
    | _ + 2, h => simp at h
  | 5, h =>
    have hg : (((((((((w.alloc (.cells #[.int .i64 6, .int .i64 7] 3)).alloc (.cells #[.int .i64 8, .int .i64 9, .int .i64 10, .int .i64 11] 3)).alloc (.cells #[.int .i64 12, .int .i64 13] 3)).alloc (.cells #[.int .i64 15, .int .i64 16, .int .i64 17, .int .i64 18, .int .i64 19, .int .i64 20] 3)).alloc (.cells #[.int .i64 14, .int .i64 21] 3)).alloc (.cells #[.int .i64 22] 3)).alloc (.cells #[.int .i64 23, .int .i64 24, .int .i64 25, .int .i64 26, .int .i64 27, .int .i64 28] 3)).alloc (.cells #[.int .i64 5] 3)).alloc a8).heap[w.heap.size + 5]? = some (.cells #[.int .i64 22] 3 (0, 0)) := by
      simp only [alloc_heap]
      repeat rw [push_lt _ _ _ (by first | omega | (simp only [Array.size_push]; omega))]
      rw [push_at _ _ _ (by first | omega | (simp only [Array.size_push]; first | done | omega))]
    rw [cell_of_row _ _ _ _ _ _ hg]
    simp only [bitGr] at h
    match j, h with
    | 0, h => simp at h; subst h; rfl
    | _ + 1, h => simp at h
  | 6, h =>
    have hg : (((((((((w.alloc (.cells #[.int .i64 6, .int .i64 7] 3)).alloc (.cells #[.int .i64 8, .int .i64 9, .int .i64 10, .int .i64 11] 3)).alloc (.cells #[.int .i64 12, .int .i64 13] 3)).alloc (.cells #[.int .i64 15, .int .i64 16, .int .i64 17, .int .i64 18, .int .i64 19, .int .i64 20] 3)).alloc (.cells #[.int .i64 14, .int .i64 21] 3)).alloc (.cells #[.int .i64 22] 3)).alloc (.cells #[.int .i64 23, .int .i64 24, .int .i64 25, .int .i64 26, .int .i64 27, .int .i64 28] 3)).alloc (.cells #[.int .i64 5] 3)).alloc a8).heap[w.heap.size + 6]? = some (.cells #[.int .i64 23, .int .i64 24, .int .i64 25, .int .i64 26, .int .i64 27, .int .i64 28] 3 (0, 0)) := by
      simp only [alloc_heap]
      repeat rw [push_lt _ _ _ (by first | omega | (simp only [Array.size_push]; omega))]
      rw [push_at _ _ _ (by first | omega | (simp only [Array.size_push]; first | done | omega))]
    rw [cell_of_row _ _ _ _ _ _ hg]
    simp only [bitGr] at h
    match j, h with
    | 0, h => simp at h; subst h; rfl
    | 1, h => simp at h; subst h; rfl
    | 2, h => simp at h; subst h; rfl
    | 3, h => simp at h; subst h; rfl
    | 4, h => simp at h; subst h; rfl
    | 5, h => simp at h; subst h; rfl
    | _ + 6, h => simp at h
  | 7, h =>
    have hg : (((((((((w.alloc (.cells #[.int .i64 6, .int .i64 7] 3)).alloc (.cells #[.int .i64 8, .int .i64 9, .int .i64 10, .int .i64 11] 3)).alloc (.cells #[.int .i64 12, .int .i64 13] 3)).alloc (.cells #[.int .i64 15, .int .i64 16, .int .i64 17, .int .i64 18, .int .i64 19, .int .i64 20] 3)).alloc (.cells #[.int .i64 14, .int .i64 21] 3)).alloc (.cells #[.int .i64 22] 3)).alloc (.cells #[.int .i64 23, .int .i64 24, .int .i64 25, .int .i64 26, .int .i64 27, .int .i64 28] 3)).alloc (.cells #[.int .i64 5] 3)).alloc a8).heap[w.heap.size + 7]? = some (.cells #[.int .i64 5] 3 (0, 0)) := by
      simp only [alloc_heap]
      repeat rw [push_lt _ _ _ (by first | omega | (simp only [Array.size_push]; omega))]
      rw [push_at _ _ _ (by first | omega | (simp only [Array.size_push]; first | done | omega))]
    rw [cell_of_row _ _ _ _ _ _ hg]
    simp only [bitGr] at h
    match j, h with
    | 0, h => simp at h; subst h; rfl
    | _ + 1, h => simp at h
  | _ + 8, h => simp [bitGr] at h

theorem bitOf_none (i : Int) (h : BitNot i 8) : bitOf i = 0 := by
  have h6 : ¬ (6 : Int) = i := h.2 _ (by decide)
  have h7 : ¬ (7 : Int) = i := h.2 _ (by decide)
  have h8 : ¬ (8 : Int) = i := h.2 _ (by decide)
  have h9 : ¬ (9 : Int) = i := h.2 _ (by decide)
  have h10 : ¬ (10 : Int) = i := h.2 _ (by decide)
  have h11 : ¬ (11 : Int) = i := h.2 _ (by decide)
  have h12 : ¬ (12 : Int) = i := h.2 _ (by decide)
  have h13 : ¬ (13 : Int) = i := h.2 _ (by decide)
  have h15 : ¬ (15 : Int) = i := h.2 _ (by decide)
  have h16 : ¬ (16 : Int) = i := h.2 _ (by decide)
  have h17 : ¬ (17 : Int) = i := h.2 _ (by decide)
  have h18 : ¬ (18 : Int) = i := h.2 _ (by decide)
  have h19 : ¬ (19 : Int) = i := h.2 _ (by decide)
  have h20 : ¬ (20 : Int) = i := h.2 _ (by decide)
  have h14 : ¬ (14 : Int) = i := h.2 _ (by decide)
  have h21 : ¬ (21 : Int) = i := h.2 _ (by decide)
  have h22 : ¬ (22 : Int) = i := h.2 _ (by decide)
  have h23 : ¬ (23 : Int) = i := h.2 _ (by decide)
  have h24 : ¬ (24 : Int) = i := h.2 _ (by decide)
  have h25 : ¬ (25 : Int) = i := h.2 _ (by decide)
  have h26 : ¬ (26 : Int) = i := h.2 _ (by decide)
  have h27 : ¬ (27 : Int) = i := h.2 _ (by decide)
  have h28 : ¬ (28 : Int) = i := h.2 _ (by decide)
  have h5 : ¬ (5 : Int) = i := h.2 _ (by decide)
  unfold bitOf
  split
  · rename_i h
    obtain ⟨n, rfl⟩ : ∃ n : Nat, i = n := ⟨i.toNat, by omega⟩
    obtain h' : n < 5 := by omega
    rcases (by omega : n = 0 ∨ n = 1 ∨ n = 2 ∨ n = 3 ∨ n = 4) with rfl | rfl | rfl | rfl | rfl <;> rfl
  · rfl

set_option maxRecDepth 100000 in
set_option maxHeartbeats 8000000 in
theorem rbit_any (i : Int) (w : World) : Calls Try.prog 30 #[.int .i64 i] w fun e w' => e = .returned (.int .i64 (bitOf i)) ∧ Below w.heap.size w w' := by
  have HN := Lib.hid (bitOf_none i)
  have HV : ∀ (n m : Nat), bitOf n = m → Hid ((n : Int) = i → (m : Int) = bitOf i) := fun n m h e => by rw [← e, h]
  have HB := Lib.hid (bitCells_at w)
  have H6 := HV 6 1 rfl
  have H7 := HV 7 1 rfl
  have H8 := HV 8 2 rfl
  have H9 := HV 9 2 rfl
  have H10 := HV 10 2 rfl
  have H11 := HV 11 2 rfl
  have H12 := HV 12 4 rfl
  have H13 := HV 13 4 rfl
  have H15 := HV 15 8 rfl
  have H16 := HV 16 8 rfl
  have H17 := HV 17 8 rfl
  have H18 := HV 18 8 rfl
  have H19 := HV 19 8 rfl
  have H20 := HV 20 8 rfl
  have H14 := HV 14 16 rfl
  have H21 := HV 21 16 rfl
  have H22 := HV 22 32 rfl
  have H23 := HV 23 64 rfl
  have H24 := HV 24 64 rfl
  have H25 := HV 25 64 rfl
  have H26 := HV 26 64 rfl
  have H27 := HV 27 64 rfl
  have H28 := HV 28 64 rfl
  have H5 := HV 5 128 rfl
  have I0 := idx8_0 w.heap.size
  have I1 := idx8_1 w.heap.size
  have I2 := idx8_2 w.heap.size
  have I3 := idx8_3 w.heap.size
  have I4 := idx8_4 w.heap.size
  have I5 := idx8_5 w.heap.size
  have I6 := idx8_6 w.heap.size
  have I7 := idx8_7 w.heap.size
  clear HV
  generalize bitOf i = x at *
  go_enter Try.func30, Try.ntmps30
  go_wp2_with fail
  go_loopw [4, 19] (fun b c wr => ∃ k : Nat, c = .int .i64 k ∧ b = .int .i64 (2 ^ k : Nat) ∧ BitNot i k ∧ BitCells w.heap.size wr ∧ Below w.heap.size w wr) (fun _ c _ => 8 - (intOf c).toNat)
  case atStart => exact ⟨0, rfl, rfl, ⟨by omega, by simp⟩, HB.out _, (((((((((Below.refl _ _).alloc (Nat.le_refl _) _).alloc (by simp) _).alloc (by simp; omega) _).alloc (by simp; omega) _).alloc (by simp; omega) _).alloc (by simp; omega) _).alloc (by simp; omega) _).alloc (by simp; omega) _).alloc (by simp; omega) _⟩
  case round =>
    obtain ⟨k, rfl, rfl, hk, hC, hb⟩ := hrel
    have HK := Lib.hid hk
    have HC := Lib.hid hC
    have HBe := Lib.hid hb
    clear hC hb
    rcases (by have := hk.1; omega : k = 0 ∨ k = 1 ∨ k = 2 ∨ k = 3 ∨ k = 4 ∨ k = 5 ∨ k = 6 ∨ k = 7 ∨ k = 8) with rfl | rfl | rfl | rfl | rfl | rfl | rfl | rfl | rfl
    · clear hk
      rw [show (((2 ^ 0 : Nat) : Nat) : Int) = 1 from rfl]
      have c0 : wr.cell? ⟨w.heap.size, 0, none⟩ = some (.int .i64 6) := HC.out 0 0 6 rfl
      have c1 : wr.cell? ⟨w.heap.size, 1, none⟩ = some (.int .i64 7) := HC.out 0 1 7 rfl
      go_wp2_with fail
      refine wp_loop_rounds 3 ?_
      rw [rounds_succ]
      go_wp2_with fail
      · have hv : ((6 : Int) == i) = true := by assumption
        go_ret
        exact ⟨ret_int (H6.out (by simpa using hv)), HBe.out⟩
      have n6 : ¬ (6 : Int) = i := by
        have hv : ((6 : Int) == i) = false := by assumption
        simpa using hv
      rw [rounds_succ]
      go_wp2_with fail
      · have hv : ((7 : Int) == i) = true := by assumption
        go_ret
        exact ⟨ret_int (H7.out (by simpa using hv)), HBe.out⟩
      have n7 : ¬ (7 : Int) = i := by
        have hv : ((7 : Int) == i) = false := by assumption
        simpa using hv
      rw [rounds_succ]
      go_wp2_with fail
      go_roundw
      case rel => exact ⟨1, by go_num, by first | rfl | go_num, ⟨by omega, by
        have h1 := HK.out.2
        intro v hv
        simp [bitGr] at hv h1
        omega⟩, HC.out, HBe.out⟩
      case measure => simp [intOf]
    · clear hk
      rw [show (((2 ^ 1 : Nat) : Nat) : Int) = 2 from rfl]
      have c0 : wr.cell? ⟨w.heap.size + 1, 0, none⟩ = some (.int .i64 8) := HC.out 1 0 8 rfl
      have c1 : wr.cell? ⟨w.heap.size + 1, 1, none⟩ = some (.int .i64 9) := HC.out 1 1 9 rfl
      have c2 : wr.cell? ⟨w.heap.size + 1, 2, none⟩ = some (.int .i64 10) := HC.out 1 2 10 rfl
      have c3 : wr.cell? ⟨w.heap.size + 1, 3, none⟩ = some (.int .i64 11) := HC.out 1 3 11 rfl
      go_wp2_with fail
      refine wp_loop_rounds 5 ?_
      rw [rounds_succ]
      go_wp2_with fail
      · have hv : ((8 : Int) == i) = true := by assumption
        go_ret
        exact ⟨ret_int (H8.out (by simpa using hv)), HBe.out⟩
      have n8 : ¬ (8 : Int) = i := by
        have hv : ((8 : Int) == i) = false := by assumption
        simpa using hv
      rw [rounds_succ]
      go_wp2_with fail
      · have hv : ((9 : Int) == i) = true := by assumption
        go_ret
        exact ⟨ret_int (H9.out (by simpa using hv)), HBe.out⟩
      have n9 : ¬ (9 : Int) = i := by
        have hv : ((9 : Int) == i) = false := by assumption
        simpa using hv
      rw [rounds_succ]
      go_wp2_with fail
      · have hv : ((10 : Int) == i) = true := by assumption
        go_ret
        exact ⟨ret_int (H10.out (by simpa using hv)), HBe.out⟩
      have n10 : ¬ (10 : Int) = i := by
        have hv : ((10 : Int) == i) = false := by assumption
        simpa using hv
      rw [rounds_succ]
      go_wp2_with fail
      · have hv : ((11 : Int) == i) = true := by assumption
        go_ret
        exact ⟨ret_int (H11.out (by simpa using hv)), HBe.out⟩
      have n11 : ¬ (11 : Int) = i := by
        have hv : ((11 : Int) == i) = false := by assumption
        simpa using hv
      rw [rounds_succ]
      go_wp2_with fail
      go_roundw
      case rel => exact ⟨2, by go_num, by first | rfl | go_num, ⟨by omega, by
        have h1 := HK.out.2
        intro v hv
        simp [bitGr] at hv h1
        omega⟩, HC.out, HBe.out⟩
      case measure => simp [intOf]
    · clear hk
      rw [show (((2 ^ 2 : Nat) : Nat) : Int) = 4 from rfl]
      have c0 : wr.cell? ⟨w.heap.size + 1 + 1, 0, none⟩ = some (.int .i64 12) := HC.out 2 0 12 rfl
      have c1 : wr.cell? ⟨w.heap.size + 1 + 1, 1, none⟩ = some (.int .i64 13) := HC.out 2 1 13 rfl
      go_wp2_with fail
      refine wp_loop_rounds 3 ?_
      rw [rounds_succ]
      go_wp2_with fail
      · have hv : ((12 : Int) == i) = true := by assumption
        go_ret
        exact ⟨ret_int (H12.out (by simpa using hv)), HBe.out⟩
      have n12 : ¬ (12 : Int) = i := by
        have hv : ((12 : Int) == i) = false := by assumption
        simpa using hv
      rw [rounds_succ]
      go_wp2_with fail
      · have hv : ((13 : Int) == i) = true := by assumption
        go_ret
        exact ⟨ret_int (H13.out (by simpa using hv)), HBe.out⟩
      have n13 : ¬ (13 : Int) = i := by
        have hv : ((13 : Int) == i) = false := by assumption
        simpa using hv
      rw [rounds_succ]
      go_wp2_with fail
      go_roundw
      case rel => exact ⟨3, by go_num, by first | rfl | go_num, ⟨by omega, by
        have h1 := HK.out.2
        intro v hv
        simp [bitGr] at hv h1
        omega⟩, HC.out, HBe.out⟩
      case measure => simp [intOf]
    · clear hk
      rw [show (((2 ^ 3 : Nat) : Nat) : Int) = 8 from rfl]
      have c0 : wr.cell? ⟨w.heap.size + 1 + 1 + 1, 0, none⟩ = some (.int .i64 15) := HC.out 3 0 15 rfl
      have c1 : wr.cell? ⟨w.heap.size + 1 + 1 + 1, 1, none⟩ = some (.int .i64 16) := HC.out 3 1 16 rfl
      have c2 : wr.cell? ⟨w.heap.size + 1 + 1 + 1, 2, none⟩ = some (.int .i64 17) := HC.out 3 2 17 rfl
      have c3 : wr.cell? ⟨w.heap.size + 1 + 1 + 1, 3, none⟩ = some (.int .i64 18) := HC.out 3 3 18 rfl
      have c4 : wr.cell? ⟨w.heap.size + 1 + 1 + 1, 4, none⟩ = some (.int .i64 19) := HC.out 3 4 19 rfl
      have c5 : wr.cell? ⟨w.heap.size + 1 + 1 + 1, 5, none⟩ = some (.int .i64 20) := HC.out 3 5 20 rfl
      go_wp2_with fail
      refine wp_loop_rounds 7 ?_
      rw [rounds_succ]
      go_wp2_with fail
      · have hv : ((15 : Int) == i) = true := by assumption
        go_ret
        exact ⟨ret_int (H15.out (by simpa using hv)), HBe.out⟩
      have n15 : ¬ (15 : Int) = i := by
        have hv : ((15 : Int) == i) = false := by assumption
        simpa using hv
      rw [rounds_succ]
      go_wp2_with fail
      · have hv : ((16 : Int) == i) = true := by assumption
        go_ret
        exact ⟨ret_int (H16.out (by simpa using hv)), HBe.out⟩
      have n16 : ¬ (16 : Int) = i := by
        have hv : ((16 : Int) == i) = false := by assumption
        simpa using hv
      rw [rounds_succ]
      go_wp2_with fail
      · have hv : ((17 : Int) == i) = true := by assumption
        go_ret
        exact ⟨ret_int (H17.out (by simpa using hv)), HBe.out⟩
      have n17 : ¬ (17 : Int) = i := by
        have hv : ((17 : Int) == i) = false := by assumption
        simpa using hv
      rw [rounds_succ]
      go_wp2_with fail
      · have hv : ((18 : Int) == i) = true := by assumption
        go_ret
        exact ⟨ret_int (H18.out (by simpa using hv)), HBe.out⟩
      have n18 : ¬ (18 : Int) = i := by
        have hv : ((18 : Int) == i) = false := by assumption
        simpa using hv
      rw [rounds_succ]
      go_wp2_with fail
      · have hv : ((19 : Int) == i) = true := by assumption
        go_ret
        exact ⟨ret_int (H19.out (by simpa using hv)), HBe.out⟩
      have n19 : ¬ (19 : Int) = i := by
        have hv : ((19 : Int) == i) = false := by assumption
        simpa using hv
      rw [rounds_succ]
      go_wp2_with fail
      · have hv : ((20 : Int) == i) = true := by assumption
        go_ret
        exact ⟨ret_int (H20.out (by simpa using hv)), HBe.out⟩
      have n20 : ¬ (20 : Int) = i := by
        have hv : ((20 : Int) == i) = false := by assumption
        simpa using hv
      rw [rounds_succ]
      go_wp2_with fail
      go_roundw
      case rel => exact ⟨4, by go_num, by first | rfl | go_num, ⟨by omega, by
        have h1 := HK.out.2
        intro v hv
        simp [bitGr] at hv h1
        omega⟩, HC.out, HBe.out⟩
      case measure => simp [intOf]
    · clear hk
      rw [show (((2 ^ 4 : Nat) : Nat) : Int) = 16 from rfl]
      have c0 : wr.cell? ⟨w.heap.size + 1 + 1 + 1 + 1, 0, none⟩ = some (.int .i64 14) := HC.out 4 0 14 rfl
      have c1 : wr.cell? ⟨w.heap.size + 1 + 1 + 1 + 1, 1, none⟩ = some (.int .i64 21) := HC.out 4 1 21 rfl
      go_wp2_with fail
      refine wp_loop_rounds 3 ?_
      rw [rounds_succ]
      go_wp2_with fail
      · have hv : ((14 : Int) == i) = true := by assumption
        go_ret
        exact ⟨ret_int (H14.out (by simpa using hv)), HBe.out⟩
      have n14 : ¬ (14 : Int) = i := by
        have hv : ((14 : Int) == i) = false := by assumption
        simpa using hv
      rw [rounds_succ]
      go_wp2_with fail
      · have hv : ((21 : Int) == i) = true := by assumption
        go_ret
        exact ⟨ret_int (H21.out (by simpa using hv)), HBe.out⟩
      have n21 : ¬ (21 : Int) = i := by
        have hv : ((21 : Int) == i) = false := by assumption
        simpa using hv
      rw [rounds_succ]
      go_wp2_with fail
      go_roundw
      case rel => exact ⟨5, by go_num, by first | rfl | go_num, ⟨by omega, by
        have h1 := HK.out.2
        intro v hv
        simp [bitGr] at hv h1
        omega⟩, HC.out, HBe.out⟩
      case measure => simp [intOf]
    · clear hk
      rw [show (((2 ^ 5 : Nat) : Nat) : Int) = 32 from rfl]
      have c0 : wr.cell? ⟨w.heap.size + 1 + 1 + 1 + 1 + 1, 0, none⟩ = some (.int .i64 22) := HC.out 5 0 22 rfl
      go_wp2_with fail
      refine wp_loop_rounds 2 ?_
      rw [rounds_succ]
      go_wp2_with fail
      · have hv : ((22 : Int) == i) = true := by assumption
        go_ret
        exact ⟨ret_int (H22.out (by simpa using hv)), HBe.out⟩
      have n22 : ¬ (22 : Int) = i := by
        have hv : ((22 : Int) == i) = false := by assumption
        simpa using hv
      rw [rounds_succ]
      go_wp2_with fail
      go_roundw
      case rel => exact ⟨6, by go_num, by first | rfl | go_num, ⟨by omega, by
        have h1 := HK.out.2
        intro v hv
        simp [bitGr] at hv h1
        omega⟩, HC.out, HBe.out⟩
      case measure => simp [intOf]
    · clear hk
      rw [show (((2 ^ 6 : Nat) : Nat) : Int) = 64 from rfl]
      have c0 : wr.cell? ⟨w.heap.size + 1 + 1 + 1 + 1 + 1 + 1, 0, none⟩ = some (.int .i64 23) := HC.out 6 0 23 rfl
      have c1 : wr.cell? ⟨w.heap.size + 1 + 1 + 1 + 1 + 1 + 1, 1, none⟩ = some (.int .i64 24) := HC.out 6 1 24 rfl
      have c2 : wr.cell? ⟨w.heap.size + 1 + 1 + 1 + 1 + 1 + 1, 2, none⟩ = some (.int .i64 25) := HC.out 6 2 25 rfl
      have c3 : wr.cell? ⟨w.heap.size + 1 + 1 + 1 + 1 + 1 + 1, 3, none⟩ = some (.int .i64 26) := HC.out 6 3 26 rfl
      have c4 : wr.cell? ⟨w.heap.size + 1 + 1 + 1 + 1 + 1 + 1, 4, none⟩ = some (.int .i64 27) := HC.out 6 4 27 rfl
      have c5 : wr.cell? ⟨w.heap.size + 1 + 1 + 1 + 1 + 1 + 1, 5, none⟩ = some (.int .i64 28) := HC.out 6 5 28 rfl
      go_wp2_with fail
      refine wp_loop_rounds 7 ?_
      rw [rounds_succ]
      go_wp2_with fail
      · have hv : ((23 : Int) == i) = true := by assumption
        go_ret
        exact ⟨ret_int (H23.out (by simpa using hv)), HBe.out⟩
      have n23 : ¬ (23 : Int) = i := by
        have hv : ((23 : Int) == i) = false := by assumption
        simpa using hv
      rw [rounds_succ]
      go_wp2_with fail
      · have hv : ((24 : Int) == i) = true := by assumption
        go_ret
        exact ⟨ret_int (H24.out (by simpa using hv)), HBe.out⟩
      have n24 : ¬ (24 : Int) = i := by
        have hv : ((24 : Int) == i) = false := by assumption
        simpa using hv
      rw [rounds_succ]
      go_wp2_with fail
      · have hv : ((25 : Int) == i) = true := by assumption
        go_ret
        exact ⟨ret_int (H25.out (by simpa using hv)), HBe.out⟩
      have n25 : ¬ (25 : Int) = i := by
        have hv : ((25 : Int) == i) = false := by assumption
        simpa using hv
      rw [rounds_succ]
      go_wp2_with fail
      · have hv : ((26 : Int) == i) = true := by assumption
        go_ret
        exact ⟨ret_int (H26.out (by simpa using hv)), HBe.out⟩
      have n26 : ¬ (26 : Int) = i := by
        have hv : ((26 : Int) == i) = false := by assumption
        simpa using hv
      rw [rounds_succ]
      go_wp2_with fail
      · have hv : ((27 : Int) == i) = true := by assumption
        go_ret
        exact ⟨ret_int (H27.out (by simpa using hv)), HBe.out⟩
      have n27 : ¬ (27 : Int) = i := by
        have hv : ((27 : Int) == i) = false := by assumption
        simpa using hv
      rw [rounds_succ]
      go_wp2_with fail
      · have hv : ((28 : Int) == i) = true := by assumption
        go_ret
        exact ⟨ret_int (H28.out (by simpa using hv)), HBe.out⟩
      have n28 : ¬ (28 : Int) = i := by
        have hv : ((28 : Int) == i) = false := by assumption
        simpa using hv
      rw [rounds_succ]
      go_wp2_with fail
      go_roundw
      case rel => exact ⟨7, by go_num, by first | rfl | go_num, ⟨by omega, by
        have h1 := HK.out.2
        intro v hv
        simp [bitGr] at hv h1
        omega⟩, HC.out, HBe.out⟩
      case measure => simp [intOf]
    · clear hk
      rw [show (((2 ^ 7 : Nat) : Nat) : Int) = 128 from rfl]
      have c0 : wr.cell? ⟨w.heap.size + 1 + 1 + 1 + 1 + 1 + 1 + 1, 0, none⟩ = some (.int .i64 5) := HC.out 7 0 5 rfl
      go_wp2_with fail
      refine wp_loop_rounds 2 ?_
      rw [rounds_succ]
      go_wp2_with fail
      · have hv : ((5 : Int) == i) = true := by assumption
        go_ret
        exact ⟨ret_int (H5.out (by simpa using hv)), HBe.out⟩
      have n5 : ¬ (5 : Int) = i := by
        have hv : ((5 : Int) == i) = false := by assumption
        simpa using hv
      rw [rounds_succ]
      go_wp2_with fail
      go_roundw
      case rel => exact ⟨8, by go_num, by first | rfl | go_num, ⟨by omega, by
        have h1 := HK.out.2
        intro v hv
        simp [bitGr] at hv h1
        omega⟩, HC.out, HBe.out⟩
      case measure => simp [intOf]
    · have hx := HN.out hk
      clear hk
      go_wp2_with fail
      go_ret
      exact ⟨ret_int hx.symm, HBe.out⟩
end Go.Proofs.Ytgnnnjabgoadaaa
