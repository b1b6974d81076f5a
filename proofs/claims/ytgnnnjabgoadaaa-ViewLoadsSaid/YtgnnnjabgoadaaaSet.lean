/- What is proved here: a store's Set and Delete: what becomes of its entries and of what can be undone. Its condition: entries and changes are fewer than 10^12. -/
import Derived.Test.YtgnnnjabgoadaaaLayAll
namespace Go.Proofs.Ytgnnnjabgoadaaa
open Go.RowKit

theorem wasT : SliceT Try.prog 24 70 (.agg #[.string ⟨#[]⟩, .string ⟨#[]⟩, .bool false]) 3 40 := ⟨by kernel_rfl, by kernel_rfl, rfl, by decide⟩

theorem wasCells_one (l : List Was) : ∀ u ∈ l.flatMap wasCells, u.oneCell' = true := by
  intro u hu
  obtain ⟨x, _, hx⟩ := List.mem_flatMap.1 hu
  simp [wasCells] at hx
  rcases hx with rfl | rfl | rfl <;> rfl

theorem Own.inv3 {w : World} {e : TypeId} {v : Value} {n : Nat} {xs : List Value} (h : Own w e 3 v n xs) (hn : 0 < n) : ∃ g c, v = .slice (some ⟨g, 0, none⟩) n c := by
  rcases h.2 with ⟨_, h1⟩ | ⟨g, c, cur, h1, _⟩
  · omega
  · exact ⟨g, c, h1⟩

/-- A change is kept, to be undone. -/
theorem past_push {w w1 : World} {b mb : Nat} {bv pv : Value} {bs : List Blk} {s1 : St} (hL : Laid w b mb bv pv bs s1 w1) (x : Was) (hb : s1.past.length < 1000000000000) :
    (w1.cell? ⟨b, 3, none⟩ = some pv ∧ ∀ o, (w1.alloc o).cell? ⟨b, 3, none⟩ = some pv) ∧ b < w1.heap.size ∧
    ∃ g' c' w2, (∀ ty, (Builtin.append_ #[24, 24] ty #[pv, .slice (some ⟨w1.heap.size, 0, none⟩) 1 1]).run Try.prog (w1.alloc (.cells #[.string x.key, .string x.val, .bool x.there] 70)) = .ok (.slice (some ⟨g', 0, none⟩) (s1.past.length + 1) c') w2) ∧
      w2.cell? ⟨b, 3, none⟩ = some pv ∧ w2.frozen? ⟨b, 3, none⟩ = false ∧
      ∃ L', SRep (w2.setCell ⟨b, 3, none⟩ (.slice (some ⟨g', 0, none⟩) (s1.past.length + 1) c')) b ⟨s1.ents, s1.past ++ [x]⟩ L' ∧ Step w (sids b mb bv pv bs) (w2.setCell ⟨b, 3, none⟩ (.slice (some ⟨g', 0, none⟩) (s1.past.length + 1) c')) L' := by
  obtain ⟨es', clk', bv', bs', hS, hF, hI⟩ := hL
  have hlt := hS.lt
  have hbw := lt_of_at hS.hd
  have hh : ∀ o, (w1.alloc o).heap[b]? = some (headObj true (.map (some mb)) bv' pv) := fun o => by rw [heap_alloc_old w1 o hbw]; exact hS.hd
  refine ⟨⟨(head_cell hS.hd).2.2.2.1, fun o => (head_cell (hh o)).2.2.2.1⟩, hbw, ?_⟩
  have hown : Own (w1.alloc (.cells #[.string x.key, .string x.val, .bool x.there] 70)) 70 3 pv s1.past.length (s1.past.flatMap wasCells) :=
    hS.ps.frame fun k hk => heap_alloc_old w1 _ (hS.ps.lt k hk)
  have hnew : (w1.alloc (.cells #[.string x.key, .string x.val, .bool x.there] 70)).heap[w1.heap.size]? = some (.cells #[.string x.key, .string x.val, .bool x.there] 70 (0, 0)) := heap_alloc_new w1 _
  obtain ⟨v', w2, hr, hA⟩ := run_append_T (m := 1) (c := 1) (ad := ⟨w1.heap.size, 0, none⟩) wasT wasT 0 hown (wasCells x) (by simp [wasCells]) (fun j u hj => by
    rw [Addr.add_lit, cell_of_row _ _ _ _ _ _ hnew]
    simpa [wasCells] using hj) (fun u hu => by simpa using wasCells_one [x] u (by simpa using hu)) (by unfold maxLen; omega) (by omega)
  have hO := hA.own
  obtain ⟨g', c', rfl⟩ := hO.inv3 (by omega)
  have hnd := hS.nd
  simp only [sids, List.nodup_cons, List.mem_cons, List.mem_append, not_or, List.nodup_append] at hnd
  have hpb : ∀ k, pv.ownBlock = some k → k ≠ b ∧ k ≠ mb ∧ k ∉ kids bv' bs' := fun k hk => by
    have hkm : k ∈ pv.ownBlock.toList := by simp [hk]
    exact ⟨fun e => hnd.1.2.1 (e ▸ hkm), fun e => hnd.2.1.1 (e ▸ hkm), fun hm => hnd.2.2.2.2 k hkm k hm rfl⟩
  have hg' : pv.ownBlock = some g' ∨ w1.heap.size + 1 ≤ g' := by
    rcases hA.block g' rfl with h | h
    · exact .inl h
    · exact .inr (by simpa using h)
  have hgb : g' ≠ b ∧ g' ≠ mb ∧ g' ∉ kids bv' bs' := by
    rcases hg' with h | h
    · exact hpb g' h
    · refine ⟨by omega, ?_, ?_⟩
      · have := hlt mb (by simp [sids]); omega
      · intro hm
        have := hlt g' (by simp [sids, hm]); omega
  have hsame : ∀ k, k < w1.heap.size → pv.ownBlock ≠ some k → w2.heap[k]? = w1.heap[k]? := fun k hk hn => by
    rw [hA.grown.block k (by simp; omega) (fun e => hn e.symm), heap_alloc_old w1 _ hk]
  have hh2 : w2.heap[b]? = some (headObj true (.map (some mb)) bv' pv) := by
    rw [hsame b hbw (fun e => (hpb b e).1 rfl)]; exact hS.hd
  have hsz : w1.heap.size + 1 ≤ w2.heap.size := by have := hA.grown.size; simpa using this
  have hfl : (s1.past ++ [x]).flatMap wasCells = s1.past.flatMap wasCells ++ wasCells x := by simp
  refine ⟨g', c', w2, fun ty => hr, (head_cell hh2).2.2.2.1, (head_cell hh2).2.2.2.2 3, sids b mb bv' (.slice (some ⟨g', 0, none⟩) (s1.past.length + 1) c') bs', ⟨mb, es', clk', bv', _, bs', ⟨head_set3 hh2 _, ?_, ?_, ?_, hS.me, hS.fl, hS.srt, ?_⟩, rfl⟩, ⟨?_, ?_⟩⟩
  · rw [Below.heap_setCell _ _ _ _ (by show mb ≠ b; exact fun e => hnd.1.1 e.symm), hsame mb (hlt mb (by simp [sids])) (fun e => (hpb mb e).2.1 rfl)]; exact hS.mp
  · refine hS.ks.frame fun k hk => ?_
    have hkb : k ≠ b := fun e => hnd.1.2.2 (e ▸ hk)
    rw [Below.heap_setCell _ _ _ _ hkb, hsame k (hlt k (by simp [sids, hk])) (fun e => (hpb k e).2.2 hk)]
  · show Own _ _ 3 _ (s1.past ++ [x]).length _
    rw [show (s1.past ++ [x]).length = s1.past.length + 1 by simp, hfl]
    exact hO.frame fun k hk => by simp [Value.ownBlock] at hk; subst hk; exact Below.heap_setCell _ _ _ _ hgb.1
  · simp only [sids, Value.ownBlock, Option.toList, List.nodup_cons, List.mem_cons, List.mem_append, not_or, List.nodup_append, List.not_mem_nil, or_false, not_false_eq_true, List.nodup_nil, and_true, true_and]
    exact ⟨⟨hnd.1.1, Ne.symm hgb.1, hnd.1.2.2⟩, ⟨Ne.symm hgb.2.1, hnd.2.1.2⟩, hnd.2.2.2.1, fun a ha c hc e => hgb.2.2 (by rw [← ha, e]; exact hc)⟩
  · have h1 : Fr (· ∈ sids b mb bv pv bs) w w2 := by
      refine (hF.alloc (.cells #[.string x.key, .string x.val, .bool x.there] 70)).grown hA.grown (fun k hk => .inr ?_)
      simp [sids, hk]
    exact h1.setCell _ _ (.inr (by simp [sids]))
  · intro k hk
    have h01 := hF.size
    simp only [sids, Value.ownBlock, Option.toList, List.mem_cons, List.mem_append, List.not_mem_nil, or_false] at hk
    rcases hk with hk | hk | hk | hk
    · exact .inl (by simp [sids, hk])
    · exact .inl (by simp [sids, hk])
    · rcases hg' with h | h
      · exact .inl (by rw [hk]; simp [sids, h])
      · right; omega
    · exact hI k (by simp [sids, hk])

end Go.Proofs.Ytgnnnjabgoadaaa
