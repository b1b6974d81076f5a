/- What is proved here: an entry is laid into a store, or taken out of it (lay): the entries behind it, and what was there ahead. Its condition: fewer than 10^12 entries. -/
import Derived.Test.YtgnnnjabgoadaaaStore
namespace Go.Proofs.Ytgnnnjabgoadaaa
open Go.RowKit

/-- Behind lay: the same block, map and past; other rows of keys. -/
def Laid (w : World) (b mb : Nat) (bv pv : Value) (bs : List Blk) (s' : St) (w' : World) : Prop :=
  ∃ es' clk' bv' bs', SAt w' b mb es' clk' bv' pv bs' s' ∧ Fr (· ∈ sids b mb bv pv bs) w w' ∧ ∀ k ∈ sids b mb bv' pv bs', k ∈ sids b mb bv pv bs ∨ w.heap.size ≤ k

def RetLaid (w : World) (b mb : Nat) (bv pv : Value) (bs : List Blk) (k v : ByteArray) (ok : Bool) (s' : St) (e : Ending) (w' : World) : Prop :=
  e = .returned (.agg #[.string k, .string v, .bool ok]) ∧ Laid w b mb bv pv bs s' w'

theorem entries_len {w : World} {b mb : Nat} {es : Array MapEntry} {clk : Nat} {bv pv : Value} {bs : List Blk} {s : St} (h : SAt w b mb es clk bv pv bs s) : (allKeys bs).length = s.ents.length := by
  rw [h.fl]; simp

theorem key_in {w : World} {b mb : Nat} {es : Array MapEntry} {clk : Nat} {bv pv : Value} {bs : List Blk} {s : St} (h : SAt w b mb es clk bv pv bs s) (k : ByteArray) : k ∈ allKeys bs ↔ (getE s.ents k).isSome = true := by
  rw [h.fl]
  constructor
  · intro hk
    cases hg : getE s.ents k with
    | none => exact absurd hk (getE_none.1 hg)
    | some v => rfl
  · intro hk
    obtain ⟨v, hv⟩ := Option.isSome_iff_exists.1 hk
    exact List.mem_map.2 ⟨_, getE_mem hv, rfl⟩

/-- The heart of lay: what the rows and the map become. -/
theorem laid_of {w w1 : World} {b mb : Nat} {es es' : Array MapEntry} {clk clk' : Nat} {bv pv : Value} {bs : List Blk} {s s' : St} {o : Obj} {ks : List ByteArray}
    (h : SAt w b mb es clk bv pv bs s) (hk : Keyed (w.alloc o) b bv bs (.map (some mb)) pv ks w1) (hme : MRep es' s'.ents) (hs : Sorted s'.ents) (hfl : ks = s'.ents.map Prod.fst) (hp : s'.past = s.past) :
    ∀ w3, (∀ k, k < w1.heap.size → k ≠ mb → k ≠ w.heap.size → w3.heap[k]? = w1.heap[k]?) → w3.heap[mb]? = some (.map es' clk') → w3.os = w1.os → w3.tape = w1.tape → w3.output = w1.output → w1.heap.size ≤ w3.heap.size → Laid w b mb bv pv bs s' w3 := by
  intro w3 hw3 hm3 ho ht hou hsz
  obtain ⟨⟨bv', bs', hh1, hK1, hall, hkids⟩, hfr⟩ := hk
  have hnd := h.nd
  have hlt := h.lt
  have hbmb : b ≠ mb := by intro e; rw [e] at hnd; simp [sids] at hnd
  have hbw := hlt b (by simp [sids])
  have hmw := hlt mb (by simp [sids])
  have hsz1 : w.heap.size + 1 ≤ w1.heap.size := by have := hfr.size; simpa using this
  have hkw : ∀ k ∈ kids bv' bs', k ≠ mb ∧ k ≠ w.heap.size ∧ k ≠ b ∧ k ∉ pv.ownBlock.toList := by
    intro k hk
    rcases hkids k hk with hk2 | hk2
    · have h1 := hlt k (by simp [sids, hk2])
      simp only [sids, List.nodup_cons, List.mem_cons, List.mem_append, not_or, List.nodup_append] at hnd
      refine ⟨fun e => hnd.2.1.2 (e ▸ hk2), by omega, fun e => hnd.1.2.2 (e ▸ hk2), fun hp => hnd.2.2.2.2 k hp k hk2 rfl⟩
    · simp only [World.size_alloc] at hk2
      refine ⟨by omega, by omega, by omega, fun hp => ?_⟩
      have := h.ps.lt k (by simpa using hp)
      omega
  have hpf : ∀ k, pv.ownBlock = some k → w3.heap[k]? = w.heap[k]? := by
    intro k hk
    have h1 := h.ps.lt k hk
    have hkm : k ∈ pv.ownBlock.toList := by simp [hk]
    simp only [sids, List.nodup_cons, List.mem_cons, List.mem_append, not_or, List.nodup_append] at hnd
    rw [hw3 k (by omega) (fun e => hnd.2.1.1 (e ▸ hkm)) (by omega), hfr.block k (by simp; omega) ?_, heap_alloc_old w o h1]
    rintro (e | e)
    · exact hnd.1.2.1 (e ▸ hkm)
    · exact hnd.2.2.2.2 k hkm k e rfl
  refine ⟨es', clk', bv', bs', ⟨?_, hm3, ?_, ?_, hme, by rw [hall, hfl], hs, ?_⟩, ⟨?_, ?_, ?_, by omega, ?_⟩, ?_⟩
  · rw [hw3 b (by omega) hbmb (by omega)]; exact hh1
  · exact hK1.frame fun k hk => hw3 k (hK1.lt k hk) (hkw k hk).1 (hkw k hk).2.1
  · rw [hp]; exact h.ps.frame hpf
  · simp only [sids, List.nodup_cons, List.mem_cons, List.mem_append, not_or, List.nodup_append] at hnd ⊢
    refine ⟨⟨hnd.1.1, hnd.1.2.1, fun hk => (hkw b hk).2.2.1 rfl⟩, ⟨hnd.2.1.1, fun hk => (hkw mb hk).1 rfl⟩, hnd.2.2.1, hK1.nd, fun a ha c hc e => (hkw c hc).2.2.2 (e ▸ ha)⟩
  · rw [ho]; exact hfr.os
  · rw [ht]; exact hfr.tape
  · rw [hou]; exact hfr.output
  · intro k hk hn
    simp only [sids, List.mem_cons, List.mem_append, not_or] at hn
    rw [hw3 k (by omega) hn.2.1 (by omega), hfr.block k (by simp; omega) ?_, heap_alloc_old w o hk]
    rintro (e | e)
    · exact hn.1 e
    · exact hn.2.2.2 e
  · intro k hk
    simp only [sids, List.mem_cons, List.mem_append] at hk ⊢
    rcases hk with hk | hk | hk | hk
    · exact .inl (.inl hk)
    · exact .inl (.inr (.inl hk))
    · exact .inl (.inr (.inr (.inl hk)))
    · rcases hkids k hk with h | h
      · exact .inl (.inr (.inr (.inr h)))
      · right; simp only [World.size_alloc] at h; omega

/-- No key has come or gone. -/
theorem keyed_same {w : World} {b mb : Nat} {es : Array MapEntry} {clk : Nat} {bv pv : Value} {bs : List Blk} {s : St} (h : SAt w b mb es clk bv pv bs s) (o : Obj) : Keyed (w.alloc o) b bv bs (.map (some mb)) pv (allKeys bs) (w.alloc o) :=
  ⟨⟨bv, bs, by rw [heap_alloc_old w o (h.lt b (by simp [sids]))]; exact h.hd, h.ks.frame fun k hk => heap_alloc_old w o (h.lt k (by simp [sids, hk])), rfl, fun k hk => .inl hk⟩, Fr.refl _ _⟩

theorem enter_all {w : World} {b mb : Nat} {es : Array MapEntry} {clk : Nat} {bv pv : Value} {bs : List Blk} {s : St} (h : SAt w b mb es clk bv pv bs s) (o : Obj) (k : ByteArray) (hk : (getE s.ents k).isSome = false) (hb : s.ents.length < 1000000000000) :
    Calls Try.prog 62 #[.pointer (some ⟨b, 0, none⟩), .string k] (w.alloc o) (RetKeyed (w.alloc o) b bv bs (.map (some mb)) pv ((allKeys bs).take (lb (allKeys bs) k) ++ k :: (allKeys bs).drop (lb (allKeys bs) k))) := by
  have hh : (w.alloc o).heap[b]? = some (headObj true (.map (some mb)) bv pv) := by rw [heap_alloc_old w o (h.lt b (by simp [sids]))]; exact h.hd
  have hK : KRep (w.alloc o) bv bs := h.ks.frame fun k hk => heap_alloc_old w o (h.lt k (by simp [sids, hk]))
  have hkn : k ∉ allKeys bs := by rw [key_in h, hk]; simp
  have hbk : b ∉ kids bv bs := by have := h.nd; simp only [sids, List.nodup_cons, List.mem_cons, List.mem_append, not_or] at this; exact this.1.2.2
  rcases Nat.eq_zero_or_pos bs.length with h0 | h0
  · obtain rfl := List.eq_nil_of_length_eq_zero h0
    exact enter_first (w.alloc o) b bv (.map (some mb)) pv k hh hK
  · obtain ⟨g, c, rfl⟩ := hK.row.inv h0
    exact enter_more (w.alloc o) b g c bs (.map (some mb)) pv k h0 hh hK hbk hkn (by rw [entries_len h]; exact hb)

theorem leave_all {w : World} {b mb : Nat} {es : Array MapEntry} {clk : Nat} {bv pv : Value} {bs : List Blk} {s : St} (h : SAt w b mb es clk bv pv bs s) (o : Obj) (k : ByteArray) (hk : (getE s.ents k).isSome = true) (hb : s.ents.length < 1000000000000) :
    Calls Try.prog 63 #[.pointer (some ⟨b, 0, none⟩), .string k] (w.alloc o) (RetKeyed (w.alloc o) b bv bs (.map (some mb)) pv ((allKeys bs).take (lb (allKeys bs) k) ++ (allKeys bs).drop (lb (allKeys bs) k + 1))) := by
  have hh : (w.alloc o).heap[b]? = some (headObj true (.map (some mb)) bv pv) := by rw [heap_alloc_old w o (h.lt b (by simp [sids]))]; exact h.hd
  have hK : KRep (w.alloc o) bv bs := h.ks.frame fun k hk => heap_alloc_old w o (h.lt k (by simp [sids, hk]))
  have hkn : k ∈ allKeys bs := (key_in h k).2 hk
  have hbk : b ∉ kids bv bs := by have := h.nd; simp only [sids, List.nodup_cons, List.mem_cons, List.mem_append, not_or] at this; exact this.1.2.2
  have h0 : 0 < bs.length := by
    rcases Nat.eq_zero_or_pos bs.length with h0 | h0
    · rw [List.eq_nil_of_length_eq_zero h0] at hkn; simp [allKeys] at hkn
    · exact h0
  obtain ⟨g, c, rfl⟩ := hK.row.inv h0
  exact leave_any (w.alloc o) b g c bs (.map (some mb)) pv k h0 hh hK hbk hkn (by rw [entries_len h]; exact hb)

/-- The slot of lay's result, as it stands at first. -/
abbrev wasZero : Obj := .cells #[.string ⟨#[]⟩, .string ⟨#[]⟩, .bool false] 70 (0, 0)

/-- What the last part of lay finds, and leaves. -/
structure Tail (w : World) (b mb : Nat) (bv pv : Value) (bs : List Blk) (s' : St) (w2 : World) : Prop where
  slot : w2.heap[w.heap.size]? = some wasZero
  fin : ∀ cs, Laid w b mb bv pv bs s' (w2.setRow w.heap.size cs)

theorem after_key {w w1 : World} {b mb : Nat} {es : Array MapEntry} {clk : Nat} {bv pv : Value} {bs : List Blk} {s : St} {ks : List ByteArray}
    (h : SAt w b mb es clk bv pv bs s) (hk : Keyed (w.alloc wasZero) b bv bs (.map (some mb)) pv ks w1) :
    w1.cell? ⟨b, 1, none⟩ = some (.map (some mb)) ∧ w1.heap[mb]? = some (.map es clk) ∧ w1.heap[w.heap.size]? = some wasZero := by
  have hnd := h.nd
  have hlt := h.lt
  simp only [sids, List.nodup_cons, List.mem_cons, List.mem_append, not_or] at hnd
  obtain ⟨⟨bv', bs', hh1, _⟩, hfr⟩ := hk
  refine ⟨(head_cell hh1).2.1, ?_, ?_⟩
  · rw [hfr.block mb (by have := hlt mb (by simp [sids]); simp; omega) ?_, heap_alloc_old w _ (hlt mb (by simp [sids]))]
    · exact h.mp
    · rintro (e | e)
      · exact hnd.1.1 e.symm
      · exact hnd.2.1.2 e
  · rw [hfr.block w.heap.size (by simp) ?_]
    · exact heap_alloc_new w _
    · rintro (e | e)
      · have := hlt b (by simp [sids]); omega
      · have := hlt w.heap.size (by simp [sids, e]); omega

theorem tail_of {w w1 : World} {b mb : Nat} {es es' : Array MapEntry} {clk clk' : Nat} {bv pv : Value} {bs : List Blk} {s s' : St} {ks : List ByteArray}
    (h : SAt w b mb es clk bv pv bs s) (hk : Keyed (w.alloc wasZero) b bv bs (.map (some mb)) pv ks w1) (hme : MRep es' s'.ents) (hs : Sorted s'.ents) (hfl : ks = s'.ents.map Prod.fst) (hp : s'.past = s.past) :
    Tail w b mb bv pv bs s' (setMap w1 mb es' clk') := by
  obtain ⟨_, hmp, hN⟩ := after_key h hk
  have hmw := h.lt mb (by simp [sids])
  have hm1 := lt_of_at hmp
  have hb2 : ∀ k, k ≠ mb → (setMap w1 mb es' clk').heap[k]? = w1.heap[k]? := fun k hk => by
    simp [setMap, Ne.symm hk]
  have hm2 : (setMap w1 mb es' clk').heap[mb]? = some (.map es' clk') := by
    simp [setMap, hm1]
  have hN2 : (setMap w1 mb es' clk').heap[w.heap.size]? = some wasZero := by rw [hb2 _ (by omega)]; exact hN
  have hs2 : (setMap w1 mb es' clk').heap.size = w1.heap.size := by simp [setMap]
  refine ⟨hN2, fun cs => ?_⟩
  refine laid_of (es' := es') (clk' := clk') h hk hme hs hfl hp _ (fun k _ h1 h2 => ?_) ?_ rfl rfl rfl (by simp [hs2])
  · rw [setRow_other _ _ _ _ h2, hb2 k h1]
  · rw [setRow_other _ _ _ _ (by omega), hm2]

/-- Laying a value: what the map's write leaves. -/
theorem put_tail {w : World} {b mb : Nat} {es : Array MapEntry} {clk : Nat} {bv pv : Value} {bs : List Blk} {s : St} (h : SAt w b mb es clk bv pv bs s) (k v : ByteArray) {ks : List ByteArray} (hks : ks = (putE s.ents k v).map Prod.fst) (w1 : World)
    (hk : Keyed (w.alloc wasZero) b bv bs (.map (some mb)) pv ks w1) :
    w1.cell? ⟨b, 1, none⟩ = some (.map (some mb)) ∧ ∃ w2, (Instr.mapUpdate 22 (.map (some mb)) (.string k) (.string v)).run Try.prog w1 = .ok () w2 ∧ Tail w b mb bv pv bs (s.lay k v true) w2 := by
  obtain ⟨h1, h2, h3⟩ := after_key h hk
  obtain ⟨es', clk', hr, hme⟩ := run_mapUpdate_str mapT h2 h.me h.srt k v
  exact ⟨h1, _, hr, tail_of h hk hme (putE_sorted h.srt k v) hks rfl⟩

theorem del_tail {w : World} {b mb : Nat} {es : Array MapEntry} {clk : Nat} {bv pv : Value} {bs : List Blk} {s : St} (h : SAt w b mb es clk bv pv bs s) (k v : ByteArray) {ks : List ByteArray} (hks : ks = (delE s.ents k).map Prod.fst) (w1 : World)
    (hk : Keyed (w.alloc wasZero) b bv bs (.map (some mb)) pv ks w1) :
    w1.cell? ⟨b, 1, none⟩ = some (.map (some mb)) ∧ ∃ w2, (∀ ty, (Builtin.delete_ #[22, 9] ty #[.map (some mb), .string k]).run Try.prog w1 = .ok (.tuple #[]) w2) ∧ Tail w b mb bv pv bs (s.lay k v false) w2 := by
  obtain ⟨h1, h2, h3⟩ := after_key h hk
  obtain ⟨es', clk', hr, hme⟩ := run_delete_str mapT 0 h2 h.me h.srt k
  exact ⟨h1, _, fun ty => hr, tail_of h hk hme (delE_sorted h.srt k) hks rfl⟩

set_option maxRecDepth 100000 in
set_option maxHeartbeats 1000000 in
theorem lay_put_new (w : World) (b mb : Nat) (es : Array MapEntry) (clk : Nat) (bv pv : Value) (bs : List Blk) (s : St) (k v : ByteArray) (h : SAt w b mb es clk bv pv bs s) (hb : s.ents.length < 1000000000000) (hk : (getE s.ents k).isSome = false) :
    Calls Try.prog 38 #[.pointer (some ⟨b, 0, none⟩), .string k, .string v, .bool true] w (RetLaid w b mb bv pv bs k (s.val k) false (s.lay k v true)) := by
  obtain ⟨_, hc1, _⟩ := head_cell h.hd
  have hmp0 : (w.alloc wasZero).heap[mb]? = some (.map es clk) := by rw [heap_alloc_old w _ (h.lt mb (by simp [sids]))]; exact h.mp
  have hlk := run_lookup_str (w := w.alloc wasZero) mapT hmp0 h.me h.srt k
  have hv : (getE s.ents k).getD emptyB = s.val k := rfl
  rw [hk, hv] at hlk
  have HL := Lib.hid hlk
  have HE := Lib.hid (enter_all h wasZero k hk hb)
  have HT := Lib.hid (put_tail h k v (ks := (allKeys bs).take (lb (allKeys bs) k) ++ k :: (allKeys bs).drop (lb (allKeys bs) k)) (by rw [putE_keys_new h.srt v hk, h.fl]))
  have hbw := h.lt b (by simp [sids])
  generalize s.val k = v0 at *
  generalize s.lay k v true = s1 at *
  clear hv h hmp0 hlk
  go_enter Try.func38, Try.ntmps38
  go_wp2_with (with_reducible refine wpList_value (o := ⟨some 17, _, _, _, _, _⟩) rfl (.tuple #[.string v0, .bool false]) (w.alloc wasZero) ?hr ?k)
  case hr =>
    refine exec_lookup (x := .tmp 15) (k := .tmp 16) (t := 22) (ok := true) (m := .map (some mb)) (kv := .string k) ?_ ?_ ?_ ?_
    · rfl
    · rfl
    · rfl
    · exact HL.out
  refine HE.out.mono ?_
  rintro e w1 ⟨rfl, hK⟩
  obtain ⟨hb1, w2, hrun, hT⟩ := HT.out w1 hK
  have HR := Lib.hid hrun
  have HN := Lib.hid hT.slot
  have HQ := Lib.hid hT.fin
  clear hrun hT
  go_wp2_with (first | (with_reducible refine wpList_skips (o := ⟨none, .mapUpdate _ _ _ _, _, _, _, _⟩) rfl w2 ?hr2 ?k2) | (with_reducible refine wpList_store_row (o := ⟨none, .store _ _ _, _, _, _, _⟩) rfl 70 (.tmp 8) (.tmp 53) rfl w.heap.size #[.string k, .string v0, .bool false] ?x1 ?x2 70 #[.string ⟨#[]⟩, .string ⟨#[]⟩, .bool false] HN.out ?x3 ?x4 ?x5 ?x6))
  case hr2 =>
    refine exec_mapUpdate (x := .tmp 42) (k := .tmp 43) (v := .tmp 44) (t := 22) (m := .map (some mb)) (kv := .string k) (vv := .string v) ?_ ?_ ?_ ?_ ?_
    · rfl
    · rfl
    · rfl
    · rfl
    · exact HR.out
  case x1 => rfl
  case x2 => rfl
  case x3 => kernel_rfl
  case x4 => rfl
  case x5 => simp [Value.oneCell']
  have h3 := setRow_heap w2 w.heap.size _ #[.string k, .string v0, .bool false] _ _ HN.out
  have hq := HQ.out #[.string k, .string v0, .bool false]
  generalize w2.setRow w.heap.size #[.string k, .string v0, .bool false] = w3 at *
  have t0 := cell_of_row w3 w.heap.size 0 _ _ _ h3
  have t1 := cell_of_row w3 w.heap.size 1 _ _ _ h3
  have t2 := cell_of_row w3 w.heap.size 2 _ _ _ h3
  simp at t0 t1 t2
  clear h3
  go_wp2
  refine bodyPost_ret (v := .agg #[.string k, .string v0, .bool false]) (by simp [results, Try.results38, go_sem, t0, t1, t2]) rfl ⟨rfl, hq⟩

end Go.Proofs.Ytgnnnjabgoadaaa
