/- What is proved here: a store in memory as one statement (SAt, SRep): its entries in order, what can be undone; what making, asking and looking up return. No condition. -/
import Derived.Test.YtgnnnjabgoadaaaLeave
namespace Go.Proofs.Ytgnnnjabgoadaaa
open Go.RowKit

section
variable {P : Program} {w : World} {ops : Array Oper} {rest : List Oper} {o : Oper} {a : Act} {Q : Exit → Act → World → Prop}

theorem exec_lookup {x k : Operand} {t : TypeId} {ok : Bool} (ho : o.op = .lookup t x k ok) {m kv r : Value} (hx : a.eval x = m) (hk : a.eval k = kv)
    (hr : (Instr.lookup t m kv ok).run P w = .ok r w) : (execOp a.eval o).run P w = .ok (.value r) w := by
  unfold execOp
  simp only [ho, Sem.run_bind, Sem.run_pure, Result.andThen_ok, hx, hk, hr]

theorem exec_delete {s x : Operand} {t t2 : TypeId} (ho : o.op = .call { callee := .builtin .delete, args := #[s, x], argTypes := #[t, t2] }) {v y r : Value} {w' : World} (hs : a.eval s = v) (hx : a.eval x = y)
    (hr : (Builtin.delete_ #[t, t2] o.type #[v, y]).run P w = .ok r w') : (execOp a.eval o).run P w = .ok (.value r) w' := by
  unfold execOp
  simp only [ho, resolve, invoke, builtin, Sem.run_bind, Sem.run_pure, Result.andThen_ok, List.map_toArray, List.map_cons, List.map_nil, hs, hx, hr]

theorem exec_mapUpdate {x k v : Operand} {t : TypeId} (ho : o.op = .mapUpdate t x k v) {m kv vv : Value} {w' : World} (hx : a.eval x = m) (hk : a.eval k = kv) (hv : a.eval v = vv)
    (hr : (Instr.mapUpdate t m kv vv).run P w = .ok () w') : (execOp a.eval o).run P w = .ok .skip w' := by
  unfold execOp
  simp only [ho, Sem.run_bind, Sem.run_pure, Result.andThen_ok, hx, hk, hv, hr]

/-- An operation whose run yields nothing. -/
theorem wpList_skips (hgd : o.guard = none) (w' : World) (hr : (execOp a.eval o).run P w = .ok .skip w') (h : wpList P ops Q rest (a.put o.dst undef) w') : wpList P ops Q (o :: rest) a w :=
  wpList_plain hgd fun _ hK => by unfold Oper.wp; rw [hr]; exact hK _ _ h
end

theorem mapT : MapT Try.prog 22 9 9 := ⟨by kernel_rfl, by kernel_rfl, by kernel_rfl⟩

def wasCells (x : Was) : List Value := [.string x.key, .string x.val, .bool x.there]

def sids (b mb : Nat) (bv pv : Value) (bs : List Blk) : List Nat := b :: mb :: (pv.ownBlock.toList ++ kids bv bs)

/-- A store in memory, with all that it is made of. -/
structure SAt (w : World) (b mb : Nat) (es : Array MapEntry) (clk : Nat) (bv pv : Value) (bs : List Blk) (s : St) : Prop where
  hd : w.heap[b]? = some (headObj true (.map (some mb)) bv pv)
  mp : w.heap[mb]? = some (.map es clk)
  ks : KRep w bv bs
  ps : Own w 70 3 pv s.past.length (s.past.flatMap wasCells)
  me : MRep es s.ents
  fl : allKeys bs = s.ents.map Prod.fst
  srt : Sorted s.ents
  nd : (sids b mb bv pv bs).Nodup

/-- A store in memory; L: its blocks. -/
def SRep (w : World) (b : Nat) (s : St) (L : List Nat) : Prop := ∃ mb es clk bv pv bs, SAt w b mb es clk bv pv bs s ∧ L = sids b mb bv pv bs

theorem SAt.lt {w : World} {b mb : Nat} {es : Array MapEntry} {clk : Nat} {bv pv : Value} {bs : List Blk} {s : St} (h : SAt w b mb es clk bv pv bs s) : ∀ k ∈ sids b mb bv pv bs, k < w.heap.size := by
  intro k hk
  simp only [sids, List.mem_cons, List.mem_append] at hk
  rcases hk with rfl | rfl | hk | hk
  · exact lt_of_at h.hd
  · exact lt_of_at h.mp
  · exact h.ps.lt k (by simpa using hk)
  · exact h.ks.lt k hk

theorem SAt.frame {w w' : World} {b mb : Nat} {es : Array MapEntry} {clk : Nat} {bv pv : Value} {bs : List Blk} {s : St} (h : SAt w b mb es clk bv pv bs s) (hb : ∀ k ∈ sids b mb bv pv bs, w'.heap[k]? = w.heap[k]?) : SAt w' b mb es clk bv pv bs s :=
  ⟨by rw [hb b (by simp [sids])]; exact h.hd, by rw [hb mb (by simp [sids])]; exact h.mp, h.ks.frame fun k hk => hb k (by simp [sids, hk]), h.ps.frame fun k hk => hb k (by simp [sids, hk]), h.me, h.fl, h.srt, h.nd⟩

theorem SRep.lt {w : World} {b : Nat} {s : St} {L : List Nat} (h : SRep w b s L) : ∀ k ∈ L, k < w.heap.size := by
  obtain ⟨mb, es, clk, bv, pv, bs, h, rfl⟩ := h; exact h.lt

theorem SRep.frame {w w' : World} {b : Nat} {s : St} {L : List Nat} (h : SRep w b s L) (hb : ∀ k ∈ L, w'.heap[k]? = w.heap[k]?) : SRep w' b s L := by
  obtain ⟨mb, es, clk, bv, pv, bs, h, rfl⟩ := h; exact ⟨mb, es, clk, bv, pv, bs, h.frame hb, rfl⟩

theorem SRep.fr {S : Nat → Prop} {w w' : World} {b : Nat} {s : St} {L : List Nat} (h : SRep w b s L) (hf : Fr S w w') (hn : ∀ k ∈ L, ¬ S k) : SRep w' b s L :=
  h.frame fun k hk => hf.block k (h.lt k hk) (hn k hk)

theorem SRep.alloc {w : World} {b : Nat} {s : St} {L : List Nat} (h : SRep w b s L) (o : Obj) : SRep (w.alloc o) b s L :=
  h.frame fun k hk => heap_alloc_old w o (h.lt k hk)

theorem SRep.srt {w : World} {b : Nat} {s : St} {L : List Nat} (h : SRep w b s L) : Sorted s.ents := by
  obtain ⟨mb, es, clk, bv, pv, bs, h, rfl⟩ := h; exact h.srt

theorem SRep.self {w : World} {b : Nat} {s : St} {L : List Nat} (h : SRep w b s L) : b ∈ L := by
  obtain ⟨mb, es, clk, bv, pv, bs, h, rfl⟩ := h; simp [sids]

/-- What a call on a store may change: the store's blocks; new blocks are its own. -/
structure Step (w : World) (L : List Nat) (w' : World) (L' : List Nat) : Prop where
  fr : Fr (· ∈ L) w w'
  own : ∀ k ∈ L', k ∈ L ∨ w.heap.size ≤ k

theorem Step.refl (w : World) (L : List Nat) : Step w L w L := ⟨Fr.refl _ _, fun _ h => .inl h⟩

theorem Step.trans {w w1 w2 : World} {L L1 L2 : List Nat} (h : Step w L w1 L1) (h1 : Step w1 L1 w2 L2) : Step w L w2 L2 :=
  ⟨h.fr.trans h1.fr fun k hk hm => by
    rcases h.own k hm with h | h
    · exact h
    · omega, fun k hk => by
    rcases h1.own k hk with h2 | h2
    · exact h.own k h2
    · exact .inr (Nat.le_trans h.fr.size h2)⟩

/-- A made store, of which nothing is known but this. -/
theorem SRep.cell0 {w : World} {b : Nat} {s : St} {L : List Nat} (h : SRep w b s L) : w.cell? ⟨b, 0, none⟩ = some (.bool true) := by
  obtain ⟨mb, es, clk, bv, pv, bs, h, rfl⟩ := h; exact (head_cell h.hd).1

set_option maxHeartbeats 400000 in
theorem is_nil (w : World) : Calls Try.prog 37 #[.pointer none] w fun e w' => e = .returned (.bool false) ∧ w = w' := by
  go_enter Try.func37, Try.ntmps37
  go_wp2
  go_ret
  exact ⟨rfl, rfl⟩

set_option maxHeartbeats 400000 in
theorem is_at (w : World) (b : Nat) (m : Bool) (hc : w.cell? ⟨b, 0, none⟩ = some (.bool m)) : Calls Try.prog 37 #[.pointer (some ⟨b, 0, none⟩)] w fun e w' => e = .returned (.bool m) ∧ w = w' := by
  go_enter Try.func37, Try.ntmps37
  go_wp2
  go_ret
  exact ⟨rfl, rfl⟩

set_option maxHeartbeats 400000 in
theorem made_nil (w : World) : Calls Try.prog 33 #[.pointer none] w fun e w' => e = .returned (.bool false) ∧ w = w' := by
  go_enter Try.func33, Try.ntmps33
  go_wp2_with (go_at_call 37; refine (is_nil _).mono ?_; rintro e w' ⟨rfl, rfl⟩)
  go_ret
  exact ⟨rfl, rfl⟩

set_option maxHeartbeats 400000 in
theorem made_at (w : World) (b : Nat) (m : Bool) (hc : w.cell? ⟨b, 0, none⟩ = some (.bool m)) : Calls Try.prog 33 #[.pointer (some ⟨b, 0, none⟩)] w fun e w' => e = .returned (.bool m) ∧ w = w' := by
  go_enter Try.func33, Try.ntmps33
  go_wp2_with (go_at_call 37; refine (is_at _ _ _ hc).mono ?_; rintro e w' ⟨rfl, rfl⟩)
  go_ret
  exact ⟨rfl, rfl⟩

def emptySt : St := ⟨[], []⟩

/-- A new store. -/
def RetNew (w : World) (e : Ending) (w' : World) : Prop := ∃ b L, e = .returned (.pointer (some ⟨b, 0, none⟩)) ∧ SRep w' b emptySt L ∧ Fr (fun _ => False) w w' ∧ ∀ k ∈ L, w.heap.size ≤ k

set_option maxHeartbeats 400000 in
theorem new_any (w : World) : Calls Try.prog 14 #[] w (RetNew w) := by
  have hmm := @run_makeMap Try.prog
  go_enter Try.func14, Try.ntmps14
  go_wp2
  go_ret
  refine ⟨w.heap.size + 1, sids (w.heap.size + 1) w.heap.size (.slice none 0 0) (.slice none 0 0) [], rfl, ⟨w.heap.size, #[], 0, .slice none 0 0, .slice none 0 0, [], ⟨?_, ?_, ⟨Own.nil _ _ _, by simp, List.Pairwise.nil, by simp [kids, Value.ownBlock]⟩, Own.nil _ _ _, MRep.empty, rfl, List.Pairwise.nil, by simp [sids, kids, Value.ownBlock]⟩, rfl⟩, ((Fr.refl _ w).alloc _).alloc _, ?_⟩
  · exact heap_alloc2_new w _ _
  · exact heap_alloc2_old w _ _
  · intro k hk
    simp [sids, kids, Value.ownBlock] at hk
    omega

set_option maxHeartbeats 400000 in
theorem get_nil (w : World) (k : ByteArray) : Calls Try.prog 81 #[.pointer none, .string k] w fun e w' => e = .returned (.tuple #[.string emptyB, .bool false]) ∧ w = w' := by
  go_enter Try.func81, Try.ntmps81
  go_wp2_with (go_at_call 37; refine (is_nil _).mono ?_; rintro e w' ⟨rfl, rfl⟩)
  go_ret2
  exact ⟨rfl, rfl⟩

set_option maxHeartbeats 400000 in
theorem get_zero (w : World) (b : Nat) (k : ByteArray) (hc : w.cell? ⟨b, 0, none⟩ = some (.bool false)) : Calls Try.prog 81 #[.pointer (some ⟨b, 0, none⟩), .string k] w fun e w' => e = .returned (.tuple #[.string emptyB, .bool false]) ∧ w = w' := by
  go_enter Try.func81, Try.ntmps81
  go_wp2_with (go_at_call 37; refine (is_at _ _ _ hc).mono ?_; rintro e w' ⟨rfl, rfl⟩)
  go_ret2
  exact ⟨rfl, rfl⟩

set_option maxHeartbeats 400000 in
theorem get_any (w : World) (b : Nat) (s : St) (L : List Nat) (k : ByteArray) (h : SRep w b s L) :
    Calls Try.prog 81 #[.pointer (some ⟨b, 0, none⟩), .string k] w fun e w' => e = .returned (.tuple #[.string (s.val k), .bool (getE s.ents k).isSome]) ∧ w = w' := by
  have hc0 := h.cell0
  obtain ⟨mb, es, clk, bv, pv, bs, h, rfl⟩ := h
  obtain ⟨_, hc1, _⟩ := head_cell h.hd
  have HL := Lib.hid (run_lookup_str mapT h.mp h.me h.srt k)
  have hv : (getE s.ents k).getD emptyB = s.val k := rfl
  rw [hv] at HL
  generalize s.val k = v at *
  generalize (getE s.ents k).isSome = ok at *
  clear hv h
  go_enter Try.func81, Try.ntmps81
  go_wp2_with (first | (go_at_call 37; refine (is_at _ _ _ hc0).mono ?_; rintro e w' ⟨rfl, rfl⟩) | (with_reducible refine wpList_value (o := ⟨some 17, _, _, _, _, _⟩) rfl (.tuple #[.string v, .bool ok]) w ?hr ?k))
  case hr =>
    refine exec_lookup (x := .tmp 15) (k := .tmp 16) (t := 22) (ok := true) (m := .map (some mb)) (kv := .string k) ?_ ?_ ?_ ?_
    · rfl
    · rfl
    · rfl
    · exact HL.out
  go_wp2
  go_ret2
  exact ⟨rfl, rfl⟩

end Go.Proofs.Ytgnnnjabgoadaaa
