/- What is proved here: a key leaves a store's rows of keys. Its condition: the key is there; fewer than 2^40 keys. -/
import Derived.Test.YtgnnnjabgoadaaaEnter
namespace Go.Proofs.Ytgnnnjabgoadaaa
open Go.RowKit

theorem delK_all (w : World) (g c : Nat) (xs : List ByteArray) (i : Nat) (hi : i < xs.length)
    (ho : Own w 9 1 (.slice (some ⟨g, 0, none⟩) xs.length c) xs.length (strs xs)) :
    Calls Try.prog 87 #[.slice (some ⟨g, 0, none⟩) xs.length c, .int .i64 i, .int .i64 ((i : Int) + 1)] w (RetDel w 9 g c i (strs xs)) := by
  rcases ho.2 with ⟨h, _⟩ | ⟨g', c', cur, h, hg, hnc, hcm, hcs, hx⟩
  · cases h
  · cases h
    rw [Nat.mul_one] at hcs hx
    have := delK_any w g c cur (strs xs) xs.length i (strs_len xs).symm hi hg hnc hcm hcs hx (strs_one xs)
    rwa [show ((i + 1 : Nat) : Int) = (i : Int) + 1 by omega] at this

theorem delB_all (w : World) (g c : Nat) (xs : List Blk) (i : Nat) (hi : i < xs.length)
    (ho : Own w 109 1 (.slice (some ⟨g, 0, none⟩) xs.length c) xs.length (xs.map Blk.val)) :
    Calls Try.prog 88 #[.slice (some ⟨g, 0, none⟩) xs.length c, .int .i64 i, .int .i64 ((i : Int) + 1)] w (RetDel w 109 g c i (xs.map Blk.val)) := by
  have hl : xs.length = (xs.map Blk.val).length := by simp
  rcases ho.2 with ⟨h, _⟩ | ⟨g', c', cur, h, hg, hnc, hcm, hcs, hx⟩
  · cases h
  · cases h
    rw [Nat.mul_one] at hcs hx
    have := delB_any w g c cur (xs.map Blk.val) xs.length i hl hi hg hnc hcm hcs hx (vals_one xs)
    rwa [show ((i + 1 : Nat) : Int) = (i : Int) + 1 by omega] at this

theorem left_small {w w2 : World} {b g c n m i p : Nat} {bs A C : List Blk} {x : Blk} {mv pv : Value} {k : ByteArray}
    (hK : KRep w (.slice (some ⟨g, 0, none⟩) n c) bs) (e : bs = A ++ x :: C) (hl : lb (allKeys bs) k = (allKeys A).length + lb x.keys k)
    (hm : m + 1 = x.keys.length) (hm0 : 0 < m) (hn : n = bs.length) (hi : i = A.length) (hp : p = lb x.keys k) (hpm : p < m + 1)
    (hh2 : w2.heap[b]? = some (headObj true mv (.slice (some ⟨g, 0, none⟩) n c) pv))
    (hO : Own w2 9 1 (.slice (some ⟨x.g, 0, none⟩) m x.cap) m ((strs x.keys).take p ++ (strs x.keys).drop (p + 1)))
    (hR2 : Own w2 109 1 (.slice (some ⟨g, 0, none⟩) n c) n (bs.map Blk.val))
    (hF2 : Fr (· = x.g) w w2) (hbg : b ≠ g) (hgk : g ≠ x.g) :
    Keyed w b (.slice (some ⟨g, 0, none⟩) n c) bs mv pv ((allKeys bs).take (lb (allKeys bs) k) ++ (allKeys bs).drop (lb (allKeys bs) k + 1)) (w2.setCell ⟨g, i, none⟩ (.slice (some ⟨x.g, 0, none⟩) m x.cap)) := by
  have hFw : Fr (fun j => j = b ∨ j ∈ kids (.slice (some ⟨g, 0, none⟩) n c) bs) w w2 := hF2.mono (fun j _ hj => .inr (by rw [hj, e]; simp [kids]))
  obtain ⟨ks, hks⟩ : ∃ ks, ks = x.keys.take p ++ x.keys.drop (p + 1) := ⟨_, rfl⟩
  have hkl : ks.length = m := by rw [hks]; simp only [List.length_append, List.length_take, List.length_drop]; omega
  have hstr : strs ks = (strs x.keys).take p ++ (strs x.keys).drop (p + 1) := by rw [hks]; simp [strs]
  have hall : allKeys (A ++ (⟨x.g, x.cap, ks⟩ : Blk) :: C) = (allKeys bs).take (lb (allKeys bs) k) ++ (allKeys bs).drop (lb (allKeys bs) k + 1) := by
    rw [hl, e, ← hp, remove_all A C x p (by omega), allKeys_append, allKeys_cons, ← hks]
  have hval : (⟨x.g, x.cap, ks⟩ : Blk).val = .slice (some ⟨x.g, 0, none⟩) m x.cap := by simp only [Blk.val, hkl]
  have hnd := hK.nd
  rw [e] at hnd
  have hne : ∀ j ∈ (A ++ C).map Blk.g, j ≠ x.g ∧ j ≠ g := by
    intro j hj
    simp only [Value.ownBlock, Option.toList, kids, List.map_append, List.map_cons, List.nodup_append, List.mem_append, List.mem_cons, List.nodup_cons, List.not_mem_nil, or_false] at hnd hj
    grind
  rw [← hstr] at hO
  refine ⟨⟨_, A ++ ⟨x.g, x.cap, ks⟩ :: C, ?_, hK.put e ?_ hn ⟨?_, ?_⟩ (.inl rfl) ?_ ?_, hall, ?_⟩, ?_⟩
  · rw [Below.heap_setCell _ _ _ _ hbg]; exact hh2
  · have := hR2.setCell i (.slice (some ⟨x.g, 0, none⟩) m x.cap)
    rw [e, hi, List.map_append, List.map_cons, show A.length = (A.map Blk.val).length by simp, List.set_append_right _ _ (Nat.le_refl _)] at this
    rw [List.map_append, List.map_cons, hval, hi]
    simpa using this
  · show ks ≠ []
    intro h; rw [h] at hkl; simp at hkl; omega
  · rw [hval]
    show Own _ _ 1 _ ks.length _
    rw [hkl]
    exact hO.frame (fun j hj => by simp [Value.ownBlock] at hj; subst hj; exact Below.heap_setCell _ _ _ _ (Ne.symm hgk))
  · intro j hj
    obtain ⟨h1, h2⟩ := hne j hj
    have hjw : j < w.heap.size := hK.lt j (by
      rw [e]; simp only [kids, List.map_append, List.map_cons, List.mem_append, List.mem_cons] at hj ⊢
      rcases hj with hj | hj
      · exact .inr (.inl hj)
      · exact .inr (.inr (.inr hj)))
    rw [Below.heap_setCell _ _ _ _ h2, hF2.block j hjw h1]
  · rw [hall]; exact remove_sorted hK.srt _
  · intro j hj
    rw [e]
    simp only [kids, List.map_append, List.map_cons] at hj ⊢
    exact .inl hj
  · exact hFw.setCell _ _ (.inr (.inr (by simp [kids, Value.ownBlock])))

theorem left_row {w w2 w3 : World} {b g c n i : Nat} {bs A C : List Blk} {x : Blk} {mv pv : Value} {k : ByteArray}
    (hK : KRep w (.slice (some ⟨g, 0, none⟩) n c) bs) (e : bs = A ++ x :: C) (hl : lb (allKeys bs) k = (allKeys A).length + lb x.keys k)
    (hm : x.keys.length = 1) (hn : n = bs.length) (hi : i = A.length) (hp : lb x.keys k < 1)
    (hh2 : w2.heap[b]? = some (headObj true mv (.slice (some ⟨g, 0, none⟩) n c) pv))
    (hF2 : Fr (· = x.g) w w2) (hD : Deleted w2 109 g c i (bs.map Blk.val) (.slice (some ⟨g, 0, none⟩) (n - 1) c) w3) (hbg : b ≠ g) (hbk : b ∉ kids (.slice (some ⟨g, 0, none⟩) n c) bs) :
    Keyed w b (.slice (some ⟨g, 0, none⟩) n c) bs mv pv ((allKeys bs).take (lb (allKeys bs) k) ++ (allKeys bs).drop (lb (allKeys bs) k + 1)) (w3.setCell ⟨b, 2, none⟩ (.slice (some ⟨g, 0, none⟩) (n - 1) c)) := by
  have hFw : Fr (fun j => j = b ∨ j ∈ kids (.slice (some ⟨g, 0, none⟩) n c) bs) w w3 :=
    (hF2.mono (fun j _ hj => .inr (by rw [hj, e]; simp [kids]))).trans hD.fr (fun j _ hj => .inr (by rw [hj]; simp [kids, Value.ownBlock]))
  have hall : allKeys (A ++ C) = (allKeys bs).take (lb (allKeys bs) k) ++ (allKeys bs).drop (lb (allKeys bs) k + 1) := by
    rw [hl, e, remove_all A C x _ (by omega), allKeys_append]
    have h0 : lb x.keys k = 0 := by omega
    rw [h0, List.drop_of_length_le (by omega)]
    simp
  have hnd := hK.nd
  have hh3 : w3.heap[b]? = some (headObj true mv (.slice (some ⟨g, 0, none⟩) n c) pv) := hD.fr.at hh2 hbg
  have hvals : (bs.map Blk.val).take i ++ (bs.map Blk.val).drop (i + 1) = (A ++ C).map Blk.val := by
    rw [e, hi, show (A ++ x :: C).map Blk.val = A.map Blk.val ++ x.val :: C.map Blk.val by simp, show A.length = (A.map Blk.val).length by simp, List.take_left, List.drop_length_add_append]
    simp
  have hO := hD.own
  rw [hvals, List.length_map, show bs.length - 1 = (A ++ C).length by rw [e]; simp] at hO
  have hn1 : n - 1 = (A ++ C).length := by rw [hn, e]; simp
  rw [e] at hnd
  have hne : ∀ y ∈ A ++ C, y.g ≠ x.g ∧ y.g ≠ g ∧ y.g ≠ b ∧ y.g < w.heap.size := by
    intro y hy
    have hyb : y ∈ bs := by
      rw [e]; simp only [List.mem_append, List.mem_cons] at hy ⊢
      rcases hy with h | h
      · exact .inl h
      · exact .inr (.inr h)
    have h1 : y.g ≠ b := fun h => hbk (by rw [← h]; exact List.mem_append.2 (.inr (List.mem_map.2 ⟨y, hyb, rfl⟩)))
    have h2 := (hK.rows y hyb).lt
    have hj : y.g ∈ (A ++ C).map Blk.g := List.mem_map.2 ⟨y, hy, rfl⟩
    simp only [Value.ownBlock, Option.toList, kids, List.map_append, List.map_cons, List.nodup_append, List.mem_append, List.mem_cons, List.nodup_cons, List.not_mem_nil, or_false] at hnd hj
    grind
  refine ⟨⟨_, A ++ C, head_set2 hh3 _, ⟨?_, fun y hy => ?_, ?_, ?_⟩, hall, ?_⟩, hFw.setCell _ _ (.inr (.inl rfl))⟩
  · rw [hn1] at hO ⊢
    exact hO.frame (fun j hj => by simp [Value.ownBlock] at hj; subst hj; exact Below.heap_setCell _ _ _ _ (by exact Ne.symm hbg))
  · obtain ⟨h1, h2, h3, h4⟩ := hne y hy
    refine (hK.rows y ?_).frame (by rw [Below.heap_setCell _ _ _ _ h3, hD.fr.block _ (Nat.lt_of_lt_of_le h4 hF2.size) h2, hF2.block _ h4 h1])
    rw [e]; simp only [List.mem_append, List.mem_cons] at hy ⊢
    rcases hy with h | h
    · exact .inl h
    · exact .inr (.inr h)
  · rw [hall]; exact remove_sorted hK.srt _
  · simp only [Value.ownBlock, Option.toList, kids, List.map_append, List.map_cons, List.nodup_append, List.mem_append, List.mem_cons, List.nodup_cons, List.not_mem_nil, or_false] at hnd ⊢
    grind
  · intro j hj
    rw [e]
    simp only [kids, List.map_append, List.map_cons, List.mem_append, List.mem_cons] at hj ⊢
    rcases hj with hj | hj | hj
    · exact .inl (.inl hj)
    · exact .inl (.inr (.inl hj))
    · exact .inl (.inr (.inr (.inr hj)))

set_option maxRecDepth 100000 in
set_option maxHeartbeats 1000000 in
theorem leave_any (w : World) (b g c : Nat) (bs : List Blk) (mv pv : Value) (k : ByteArray) (h0 : 0 < bs.length)
    (hh : w.heap[b]? = some (headObj true mv (.slice (some ⟨g, 0, none⟩) bs.length c) pv)) (hK : KRep w (.slice (some ⟨g, 0, none⟩) bs.length c) bs)
    (hbk : b ∉ kids (.slice (some ⟨g, 0, none⟩) bs.length c) bs) (hk : k ∈ allKeys bs) (hb : (allKeys bs).length < 1000000000000) :
    Calls Try.prog 63 #[.pointer (some ⟨b, 0, none⟩), .string k] w
      (RetKeyed w b (.slice (some ⟨g, 0, none⟩) bs.length c) bs mv pv ((allKeys bs).take (lb (allKeys bs) k) ++ (allKeys bs).drop (lb (allKeys bs) k + 1))) := by
  obtain ⟨A, x, C, e, hA, hl⟩ := place hK.ne hK.srt k h0
  have hplt := place_in hK.srt e hl hk hK.ne hA
  have hx : x ∈ bs := by rw [e]; simp
  have hxA := hK.rows x hx
  have hxl := keys_le_all hx
  have hbl := allKeys_length hK.ne
  obtain ⟨m, hm⟩ : ∃ m, m + 1 = x.keys.length := ⟨x.keys.length - 1, by have := List.length_pos_iff.2 hxA.1; omega⟩
  obtain ⟨n, hn⟩ : ∃ n, n = bs.length := ⟨_, rfl⟩
  obtain ⟨i, hi⟩ : ∃ i, i = A.length := ⟨_, rfl⟩
  obtain ⟨p, hp⟩ : ∃ p, p = lb x.keys k := ⟨_, rfl⟩
  have hin : i < n := by rw [hi, hn, e]; simp
  have hpm : p < m + 1 := by rw [hp, hm]; exact hplt
  have hgw := hK.lt g (by simp [kids, Value.ownBlock])
  have hxw := hxA.lt
  obtain ⟨_, _, hb2, _, hfz⟩ := head_cell hh
  have hrow : w.cell? ⟨g, i, none⟩ = some (.slice (some ⟨x.g, 0, none⟩) (m + 1) x.cap) := by
    have := hK.row.cells (g := g) rfl i x.val (by rw [hi, e]; simp)
    rw [Addr.add_lit, Nat.zero_add] at this
    rw [this, hm]; rfl
  have hfind := find_any w b g c bs k (lasts_sorted hK.ne hK.srt) (by omega) h0 hb2 (hK.lasts (by omega))
  rw [← hA, ← hi] at hfind
  have hsearch := bsearch_any w x.g x.cap x.keys k (all_sorted_of hK.srt hx) (by omega) (fun j y hj => by
    have := hxA.2.cells (g := x.g) rfl j (.string y) (by simp [strs, hj])
    rwa [Addr.add_lit, Nat.zero_add] at this)
  rw [← hm, ← hp] at hsearch
  have hdel := delK_all w x.g x.cap x.keys p (by rw [hp]; exact hplt) hxA.2
  rw [← hm] at hdel
  have hbg : b ≠ g := fun h => hbk (by rw [h]; simp [kids, Value.ownBlock])
  have hbx : b ≠ x.g := fun h => hbk (by rw [e, h]; simp [kids])
  have hgk : g ≠ x.g := by
    have h := hK.nd
    intro e2
    rw [e] at h
    simp [kids, Value.ownBlock, e2] at h
  -- what the first Delete leaves
  have HB2 : Hid (∀ w2 v2, Deleted w 9 x.g x.cap p (strs x.keys) v2 w2 → v2 = .slice (some ⟨x.g, 0, none⟩) m x.cap ∧ w2.heap[b]? = some (headObj true mv (.slice (some ⟨g, 0, none⟩) n c) pv) ∧
      Own w2 9 1 (.slice (some ⟨x.g, 0, none⟩) m x.cap) m ((strs x.keys).take p ++ (strs x.keys).drop (p + 1)) ∧ Own w2 109 1 (.slice (some ⟨g, 0, none⟩) n c) n (bs.map Blk.val) ∧ Fr (· = x.g) w w2 ∧
      w2.cell? ⟨b, 2, none⟩ = some (.slice (some ⟨g, 0, none⟩) n c) ∧ w2.cell? ⟨g, i, none⟩ = some (.slice (some ⟨x.g, 0, none⟩) (m + 1) x.cap) ∧ w2.frozen? ⟨g, i, none⟩ = false) := fun w2 v2 hD => by
    have hv := hD.val
    have hO := hD.own
    rw [strs_len, ← hm] at hv hO
    simp only [Nat.add_sub_cancel] at hv hO
    rw [hv] at hO
    have h2 : w2.heap[b]? = some (headObj true mv (.slice (some ⟨g, 0, none⟩) n c) pv) := by rw [hn]; exact hD.fr.at hh hbx
    have hR : Own w2 109 1 (.slice (some ⟨g, 0, none⟩) n c) n (bs.map Blk.val) := by
      rw [hn]; exact hK.row.fr hD.fr (fun j hj => by simp [Value.ownBlock] at hj; subst hj; exact hgk)
    exact ⟨hv, h2, hO, hR, hD.fr, (head_cell h2).2.2.1, hD.fr.cell hrow hgk, frozen_own hR i⟩
  have HEND1 : Hid (∀ w2 v2, 0 < m → Deleted w 9 x.g x.cap p (strs x.keys) v2 w2 → Keyed w b (.slice (some ⟨g, 0, none⟩) n c) bs mv pv ((allKeys bs).take (lb (allKeys bs) k) ++ (allKeys bs).drop (lb (allKeys bs) k + 1)) (w2.setCell ⟨g, i, none⟩ (.slice (some ⟨x.g, 0, none⟩) m x.cap))) := fun w2 v2 hm0 hD => by
    obtain ⟨h1, h2, h3, h4, h5, _⟩ := HB2.out w2 v2 hD
    rw [← hn] at hK
    exact left_small hK e hl hm hm0 hn hi hp hpm h2 h3 h4 h5 hbg hgk
  have HDEL2 : Hid (∀ w2 v2, Deleted w 9 x.g x.cap p (strs x.keys) v2 w2 → Calls Try.prog 88 #[.slice (some ⟨g, 0, none⟩) n c, .int .i64 i, .int .i64 ((i : Int) + 1)] w2 (RetDel w2 109 g c i (bs.map Blk.val))) := fun w2 v2 hD => by
    obtain ⟨h1, h2, h3, h4, h5, _⟩ := HB2.out w2 v2 hD
    rw [hn] at h4 ⊢
    exact delB_all w2 g c bs i (by omega) h4
  have HEND2 : Hid (∀ w2 v2 w3 v3, m = 0 → Deleted w 9 x.g x.cap p (strs x.keys) v2 w2 → Deleted w2 109 g c i (bs.map Blk.val) v3 w3 →
      (v3 = .slice (some ⟨g, 0, none⟩) (n - 1) c ∧ w3.cell? ⟨b, 2, none⟩ = some (.slice (some ⟨g, 0, none⟩) n c) ∧ w3.frozen? ⟨b, 2, none⟩ = false) ∧
      Keyed w b (.slice (some ⟨g, 0, none⟩) n c) bs mv pv ((allKeys bs).take (lb (allKeys bs) k) ++ (allKeys bs).drop (lb (allKeys bs) k + 1)) (w3.setCell ⟨b, 2, none⟩ (.slice (some ⟨g, 0, none⟩) (n - 1) c))) := fun w2 v2 w3 v3 hm0 hD hD3 => by
    obtain ⟨h1, h2, h3, h4, h5, _⟩ := HB2.out w2 v2 hD
    have hv := hD3.val
    rw [List.length_map, ← hn] at hv
    have h6 := hD3.fr.at h2 hbg
    subst hv
    rw [← hn] at hK hbk
    refine ⟨⟨rfl, (head_cell h6).2.2.1, (head_cell h6).2.2.2.2 2⟩, ?_⟩
    exact left_row hK e hl (by omega) hn hi (by omega) h2 h5 hD3 hbg hbk
  have HF := Lib.hid hfind
  have HS := Lib.hid hsearch
  have HD := Lib.hid hdel
  rw [← hn] at hb2 ⊢
  have hnb : n < 4611686018427387904 := by omega
  have hmb : m < 4611686018427387904 := by omega
  clear hfind hsearch hdel hxA hK hh hA hl e hm hn hi hp hbk hk hx hfz hplt hbx
  go_enter Try.func63, Try.ntmps63
  go_wp2_with (first | (go_at_call 70; refine HF.out.mono ?_; rintro e w' ⟨rfl, rfl⟩) | (go_at_call 83; refine HS.out.mono ?_; rintro e w' ⟨⟨f, rfl⟩, rfl⟩))
  refine HD.out.mono ?_
  rintro e2 w2 ⟨v2, rfl, hD2⟩
  obtain ⟨rfl, _, _, _, _, hb22, hr2, hf2⟩ := HB2.out _ _ hD2
  by_cases hm0 : m = 0
  · have HM := Lib.hid hm0
    subst hm0
    go_wp2_with fail
    refine (HDEL2.out _ _ hD2).mono ?_
    rintro e3 w3 ⟨v3, rfl, hD3⟩
    obtain ⟨⟨rfl, hb23, hf3⟩, hQ⟩ := HEND2.out _ _ _ _ (by first | rfl | trivial) hD2 hD3
    have HQ := Lib.hid hQ
    clear hQ
    go_wp2
    go_returns
    exact ⟨rfl, HQ.out⟩
  · have hmn : ((m : Int) == 0) = false := by rw [beq_eq_false_iff_ne]; omega
    go_wp2
    go_returns
    exact ⟨rfl, HEND1.out _ _ (by omega) hD2⟩

end Go.Proofs.Ytgnnnjabgoadaaa
