/- What is proved here: lay, on all its ways: an entry laid or taken out, there or not. Its condition: fewer than 10^12 entries. -/
import Derived.Test.YtgnnnjabgoadaaaLay
namespace Go.Proofs.Ytgnnnjabgoadaaa
open Go.RowKit

set_option maxRecDepth 100000 in
set_option maxHeartbeats 1000000 in
theorem lay_put_old (w : World) (b mb : Nat) (es : Array MapEntry) (clk : Nat) (bv pv : Value) (bs : List Blk) (s : St) (k v : ByteArray) (h : SAt w b mb es clk bv pv bs s) (hk : (getE s.ents k).isSome = true) :
    Calls Try.prog 38 #[.pointer (some ⟨b, 0, none⟩), .string k, .string v, .bool true] w (RetLaid w b mb bv pv bs k (s.val k) true (s.lay k v true)) := by
  obtain ⟨_, hc1, _⟩ := head_cell h.hd
  have hmp0 : (w.alloc wasZero).heap[mb]? = some (.map es clk) := by rw [heap_alloc_old w _ (h.lt mb (by simp [sids]))]; exact h.mp
  have hlk := run_lookup_str (w := w.alloc wasZero) mapT hmp0 h.me h.srt k
  have hv : (getE s.ents k).getD emptyB = s.val k := rfl
  rw [hk, hv] at hlk
  have HL := Lib.hid hlk
  have HT := Lib.hid (put_tail h k v (ks := allKeys bs) (by rw [putE_keys_in h.srt v hk, h.fl]))
  have HS := Lib.hid (keyed_same h wasZero)
  have hbw := h.lt b (by simp [sids])
  generalize s.val k = v0 at *
  generalize s.lay k v true = s1 at *
  clear hv h hmp0 hlk
  obtain ⟨_, w2, hrun, hT⟩ := HT.out (w.alloc wasZero) HS.out
  have HR := Lib.hid hrun
  have HN := Lib.hid hT.slot
  have HQ := Lib.hid hT.fin
  clear hrun hT
  go_enter Try.func38, Try.ntmps38
  go_wp2_with (first | (with_reducible refine wpList_value (o := ⟨some 17, _, _, _, _, _⟩) rfl (.tuple #[.string v0, .bool true]) (w.alloc wasZero) ?hr ?k) | (with_reducible refine wpList_skips (o := ⟨none, .mapUpdate _ _ _ _, _, _, _, _⟩) rfl w2 ?hr2 ?k2) | (with_reducible refine wpList_store_row (o := ⟨none, .store _ _ _, _, _, _, _⟩) rfl 70 (.tmp 8) (.tmp 53) rfl w.heap.size #[.string k, .string v0, .bool true] ?x1 ?x2 70 #[.string ⟨#[]⟩, .string ⟨#[]⟩, .bool false] HN.out ?x3 ?x4 ?x5 ?x6))
  case hr =>
    refine exec_lookup (x := .tmp 15) (k := .tmp 16) (t := 22) (ok := true) (m := .map (some mb)) (kv := .string k) ?_ ?_ ?_ ?_
    · rfl
    · rfl
    · rfl
    · exact HL.out
  case hr2 =>
    refine exec_mapUpdate (x := .tmp 42) (k := .tmp 43) (v := .tmp 44) (t := 22) (m := .map (some mb)) (kv := .string k) (vv := .string v) ?_ ?_ ?_ ?_ ?_
    · rfl
    · rfl
    · rfl
    · rfl
    · exact HR.out
  case x1 => rfl
  case x2 => rfl
  case x3 => kernel_rfl
  case x4 => rfl
  case x5 => simp [Value.oneCell']
  have h3 := setRow_heap w2 w.heap.size _ #[.string k, .string v0, .bool true] _ _ HN.out
  have hq := HQ.out #[.string k, .string v0, .bool true]
  generalize w2.setRow w.heap.size #[.string k, .string v0, .bool true] = w3 at *
  have t0 := cell_of_row w3 w.heap.size 0 _ _ _ h3
  have t1 := cell_of_row w3 w.heap.size 1 _ _ _ h3
  have t2 := cell_of_row w3 w.heap.size 2 _ _ _ h3
  simp at t0 t1 t2
  clear h3
  go_wp2
  refine bodyPost_ret (v := .agg #[.string k, .string v0, .bool true]) (by simp [results, Try.results38, go_sem, t0, t1, t2]) rfl ⟨rfl, hq⟩

set_option maxRecDepth 100000 in
set_option maxHeartbeats 1000000 in
theorem lay_del (w : World) (b mb : Nat) (es : Array MapEntry) (clk : Nat) (bv pv : Value) (bs : List Blk) (s : St) (k v : ByteArray) (h : SAt w b mb es clk bv pv bs s) (hb : s.ents.length < 1000000000000) (hk : (getE s.ents k).isSome = true) :
    Calls Try.prog 38 #[.pointer (some ⟨b, 0, none⟩), .string k, .string v, .bool false] w (RetLaid w b mb bv pv bs k (s.val k) true (s.lay k v false)) := by
  obtain ⟨_, hc1, _⟩ := head_cell h.hd
  have hmp0 : (w.alloc wasZero).heap[mb]? = some (.map es clk) := by rw [heap_alloc_old w _ (h.lt mb (by simp [sids]))]; exact h.mp
  have hlk := run_lookup_str (w := w.alloc wasZero) mapT hmp0 h.me h.srt k
  have hv : (getE s.ents k).getD emptyB = s.val k := rfl
  rw [hk, hv] at hlk
  have HL := Lib.hid hlk
  have HE := Lib.hid (leave_all h wasZero k hk hb)
  have HT := Lib.hid (del_tail h k v (ks := (allKeys bs).take (lb (allKeys bs) k) ++ (allKeys bs).drop (lb (allKeys bs) k + 1)) (by rw [delE_keys h.srt hk, h.fl]))
  have hbw := h.lt b (by simp [sids])
  generalize s.val k = v0 at *
  generalize s.lay k v false = s1 at *
  clear hv h hmp0 hlk
  go_enter Try.func38, Try.ntmps38
  go_wp2_with (first | (with_reducible refine wpList_value (o := ⟨some 17, _, _, _, _, _⟩) rfl (.tuple #[.string v0, .bool true]) (w.alloc wasZero) ?hr ?k))
  case hr =>
    refine exec_lookup (x := .tmp 15) (k := .tmp 16) (t := 22) (ok := true) (m := .map (some mb)) (kv := .string k) ?_ ?_ ?_ ?_
    · rfl
    · rfl
    · rfl
    · exact HL.out
  refine HE.out.mono ?_
  rintro e w1 ⟨rfl, hK⟩
  obtain ⟨hb1, w2, hrun, hT⟩ := HT.out w1 hK
  have HR := Lib.hid hrun
  have HN := Lib.hid hT.slot
  have HQ := Lib.hid hT.fin
  clear hrun hT
  go_wp2_with (first | (with_reducible refine wpList_value (o := ⟨none, .call _, _, _, _, _⟩) rfl (.tuple #[]) w2 ?hr2 ?k2) | (with_reducible refine wpList_store_row (o := ⟨none, .store _ _ _, _, _, _, _⟩) rfl 70 (.tmp 8) (.tmp 53) rfl w.heap.size #[.string k, .string v0, .bool true] ?x1 ?x2 70 #[.string ⟨#[]⟩, .string ⟨#[]⟩, .bool false] HN.out ?x3 ?x4 ?x5 ?x6))
  case hr2 =>
    refine exec_delete (s := .tmp 48) (x := .tmp 49) (t := 22) (t2 := 9) (v := .map (some mb)) (y := .string k) ?_ ?_ ?_ ?_
    · rfl
    · rfl
    · rfl
    · exact HR.out _
  case x1 => rfl
  case x2 => rfl
  case x3 => kernel_rfl
  case x4 => rfl
  case x5 => simp [Value.oneCell']
  have h3 := setRow_heap w2 w.heap.size _ #[.string k, .string v0, .bool true] _ _ HN.out
  have hq := HQ.out #[.string k, .string v0, .bool true]
  generalize w2.setRow w.heap.size #[.string k, .string v0, .bool true] = w3 at *
  have t0 := cell_of_row w3 w.heap.size 0 _ _ _ h3
  have t1 := cell_of_row w3 w.heap.size 1 _ _ _ h3
  have t2 := cell_of_row w3 w.heap.size 2 _ _ _ h3
  simp at t0 t1 t2
  clear h3
  go_wp2
  refine bodyPost_ret (v := .agg #[.string k, .string v0, .bool true]) (by simp [results, Try.results38, go_sem, t0, t1, t2]) rfl ⟨rfl, hq⟩

set_option maxRecDepth 100000 in
set_option maxHeartbeats 1000000 in
theorem lay_none (w : World) (b mb : Nat) (es : Array MapEntry) (clk : Nat) (bv pv : Value) (bs : List Blk) (s : St) (k v : ByteArray) (h : SAt w b mb es clk bv pv bs s) (hk : (getE s.ents k).isSome = false) :
    Calls Try.prog 38 #[.pointer (some ⟨b, 0, none⟩), .string k, .string v, .bool false] w (RetLaid w b mb bv pv bs k (s.val k) false (s.lay k v false)) := by
  obtain ⟨_, hc1, _⟩ := head_cell h.hd
  have hmp0 : (w.alloc wasZero).heap[mb]? = some (.map es clk) := by rw [heap_alloc_old w _ (h.lt mb (by simp [sids]))]; exact h.mp
  have hlk := run_lookup_str (w := w.alloc wasZero) mapT hmp0 h.me h.srt k
  have hv : (getE s.ents k).getD emptyB = s.val k := rfl
  rw [hk, hv] at hlk
  have HL := Lib.hid hlk
  have HT := Lib.hid (del_tail h k v (ks := allKeys bs) (by rw [delE_keys_not hk, h.fl]))
  have HS := Lib.hid (keyed_same h wasZero)
  have hbw := h.lt b (by simp [sids])
  generalize s.val k = v0 at *
  generalize s.lay k v false = s1 at *
  clear hv h hmp0 hlk
  obtain ⟨_, w2, hrun, hT⟩ := HT.out (w.alloc wasZero) HS.out
  have HR := Lib.hid hrun
  have HN := Lib.hid hT.slot
  have HQ := Lib.hid hT.fin
  clear hrun hT
  go_enter Try.func38, Try.ntmps38
  go_wp2_with (first | (with_reducible refine wpList_value (o := ⟨some 17, _, _, _, _, _⟩) rfl (.tuple #[.string v0, .bool false]) (w.alloc wasZero) ?hr ?k) | (with_reducible refine wpList_value (o := ⟨none, .call _, _, _, _, _⟩) rfl (.tuple #[]) w2 ?hr2 ?k2) | (with_reducible refine wpList_store_row (o := ⟨none, .store _ _ _, _, _, _, _⟩) rfl 70 (.tmp 8) (.tmp 53) rfl w.heap.size #[.string k, .string v0, .bool false] ?x1 ?x2 70 #[.string ⟨#[]⟩, .string ⟨#[]⟩, .bool false] HN.out ?x3 ?x4 ?x5 ?x6))
  case hr =>
    refine exec_lookup (x := .tmp 15) (k := .tmp 16) (t := 22) (ok := true) (m := .map (some mb)) (kv := .string k) ?_ ?_ ?_ ?_
    · rfl
    · rfl
    · rfl
    · exact HL.out
  case hr2 =>
    refine exec_delete (s := .tmp 48) (x := .tmp 49) (t := 22) (t2 := 9) (v := .map (some mb)) (y := .string k) ?_ ?_ ?_ ?_
    · rfl
    · rfl
    · rfl
    · exact HR.out _
  case x1 => rfl
  case x2 => rfl
  case x3 => kernel_rfl
  case x4 => rfl
  case x5 => simp [Value.oneCell']
  have h3 := setRow_heap w2 w.heap.size _ #[.string k, .string v0, .bool false] _ _ HN.out
  have hq := HQ.out #[.string k, .string v0, .bool false]
  generalize w2.setRow w.heap.size #[.string k, .string v0, .bool false] = w3 at *
  have t0 := cell_of_row w3 w.heap.size 0 _ _ _ h3
  have t1 := cell_of_row w3 w.heap.size 1 _ _ _ h3
  have t2 := cell_of_row w3 w.heap.size 2 _ _ _ h3
  simp at t0 t1 t2
  clear h3
  go_wp2
  refine bodyPost_ret (v := .agg #[.string k, .string v0, .bool false]) (by simp [results, Try.results38, go_sem, t0, t1, t2]) rfl ⟨rfl, hq⟩

end Go.Proofs.Ytgnnnjabgoadaaa
