/- What is proved here: the reference's source of bytes: wrong, take, End. Their condition: fewer than 10^12 bytes. the reference's source of bytes: Var, Text. Their condition: fewer than 10^12 bytes. the reference's source of bytes: Text. Its condition: fewer than 10^12 bytes. -/
import Derived.Test.YtgnnnjabgoadaaaOct
namespace Go.Proofs.Ytgnnnjabgoadaaa
open Go.RowKit

/-- The reference's source in memory: its bytes lie ahead of it. -/
structure ROctAt (w : World) (b : Nat) (l : List UInt8) (e : Int) (a : Option Addr) (c : Nat) : Prop where
  hd : w.heap[b]? = some (.cells #[.slice a l.length c, .int .i64 e] 81 (0, 0))
  src : Src w 1 (.slice a l.length c) l.length (bytesV l)
  cap : l.length ≤ c
  old : l ≠ [] → ∀ k, Value.ownBlock (.slice a l.length c) = some k → k < b

def ROctRep (w : World) (b : Nat) (l : List UInt8) (e : Int) : Prop := ∃ a c, ROctAt w b l e a c

theorem src_nilB (w : World) (a : Option Addr) (c : Nat) : Src w 1 (.slice a 0 c) 0 (bytesV []) := ⟨rfl, a, c, rfl, fun j u hj => by cases hj⟩

theorem ROctAt.cells {w : World} {b : Nat} {l : List UInt8} {e : Int} {a : Option Addr} {c : Nat} (h : ROctAt w b l e a c) :
    w.cell? ⟨b, 0, none⟩ = some (.slice a l.length c) ∧ w.cell? ⟨b, 1, none⟩ = some (.int .i64 e) ∧ w.frozen? ⟨b, 0, none⟩ = false ∧ w.frozen? ⟨b, 1, none⟩ = false := by
  refine ⟨?_, ?_, frozen_of_row w b 0 _ _ h.hd, frozen_of_row w b 1 _ _ h.hd⟩
  all_goals rw [cell_of_row w b _ _ _ _ h.hd]; rfl

theorem ROctAt.below {w w' : World} {b : Nat} {l : List UInt8} {e : Int} {a : Option Addr} {c : Nat} (h : ROctAt w b l e a c) (hb : Below (b + 1) w w') : ROctAt w' b l e a c := by
  refine ⟨by rw [hb.block b (by omega)]; exact h.hd, ?_, h.cap, h.old⟩
  by_cases hl : l = []
  · subst hl; exact src_nilB _ _ _
  · exact h.src.to fun x u hx hy => by
      have := h.old hl _ hy
      rw [World.cell?_of_block (w := w) (hb.block x.block (by omega))]
      exact hx

theorem ROctRep.below {w w' : World} {b : Nat} {l : List UInt8} {e : Int} (h : ROctRep w b l e) (hb : Below (b + 1) w w') : ROctRep w' b l e := by
  obtain ⟨a, c, h⟩ := h; exact ⟨a, c, h.below hb⟩

theorem roct_set0 {w : World} {b : Nat} {x e : Value} {t : TypeId} (h : w.heap[b]? = some (.cells #[x, e] t (0, 0))) (v : Value) : (w.setCell ⟨b, 0, none⟩ v).heap[b]? = some (.cells #[v, e] t (0, 0)) := by
  rw [setCell_eq_setRow w b 0 _ _ _ v h]; exact setRow_heap w b _ _ _ _ h
theorem roct_set1 {w : World} {b : Nat} {x e : Value} {t : TypeId} (h : w.heap[b]? = some (.cells #[x, e] t (0, 0))) (v : Value) : (w.setCell ⟨b, 1, none⟩ v).heap[b]? = some (.cells #[x, v] t (0, 0)) := by
  rw [setCell_eq_setRow w b 1 _ _ _ v h]; exact setRow_heap w b _ _ _ _ h

theorem ROctAt.failed {w : World} {b : Nat} {l : List UInt8} {e : Int} {a : Option Addr} {c : Nat} (h : ROctAt w b l e a c) (x : Int) : ROctRep ((w.setCell ⟨b, 0, none⟩ (.slice none 0 0)).setCell ⟨b, 1, none⟩ (.int .i64 x)) b [] x ∧ Fr (fun k => k = b) w ((w.setCell ⟨b, 0, none⟩ (.slice none 0 0)).setCell ⟨b, 1, none⟩ (.int .i64 x)) :=
  ⟨⟨none, 0, ⟨roct_set1 (roct_set0 h.hd _) _, src_nilB _ _ _, Nat.le_refl _, fun h => absurd rfl h⟩⟩,
    ((Fr.refl (fun k => k = b) w).setCell ⟨b, 0, none⟩ _ (.inr rfl)).setCell ⟨b, 1, none⟩ _ (.inr rfl)⟩

/-- The bytes from k on are left. -/
theorem ROctAt.drop {w : World} {b : Nat} {l : List UInt8} {e : Int} {a : Option Addr} {c : Nat} (h : ROctAt w b l e a c) (k : Nat) (hk : k ≤ l.length) : ∃ ad c',
    (∀ w1, (Instr.sliceAt 36 (.slice a l.length c) (some (.int .i64 k)) none none).run Try.prog w1 = .ok (.slice ad (l.length - k) c') w1) ∧ ∀ w1, w1.heap = w.heap ∨ Below w.heap.size w w1 → ROctRep (w1.setCell ⟨b, 0, none⟩ (.slice ad (l.length - k) c')) b (l.drop k) e := by
  obtain ⟨ad, c', hr, hs, hc, ho⟩ := run_src_end bytesT h.src h.cap k hk
  rw [bytesV_drop] at hs
  refine ⟨ad, c', hr, fun w1 hw => ⟨ad, c', ?_, ?_, by rw [List.length_drop]; exact hc, fun hl k' hk' => ?_⟩⟩
  · have : w1.heap[b]? = w.heap[b]? := by
      rcases hw with hw | hw
      · rw [hw]
      · exact hw.block b (lt_of_at h.hd)
    rw [List.length_drop]
    exact roct_set0 (this.trans h.hd) _
  · by_cases hl : l.drop k = []
    · rw [hl]
      have h0 : l.length - k = 0 := by rw [← List.length_drop, hl]; rfl
      rw [h0]; exact src_nilB _ _ _
    · have hl' : l ≠ [] := fun e => hl (by rw [e]; simp)
      rw [List.length_drop]
      refine hs.to fun x u hx hy => ?_
      rw [ho] at hy
      have hlt := h.old hl' _ hy
      have hxb : (w1.setCell ⟨b, 0, none⟩ (.slice ad (l.length - k) c')).heap[x.block]? = w.heap[x.block]? := by
        rw [Below.heap_setCell _ _ _ _ (by show x.block ≠ b; omega)]
        rcases hw with hw | hw
        · rw [hw]
        · exact hw.block _ (World.block_lt_of_cell? w x hx)
      rw [World.cell?_of_block (w := w) hxb]
      exact hx
  · have hl' : l ≠ [] := fun e => hl (by rw [e]; simp)
    rw [List.length_drop, ho] at hk'
    exact h.old hl' _ hk'

def RetRO (w : World) (b : Nat) (v : Value) (l : List UInt8) (e : Int) (en : Ending) (w' : World) : Prop := en = .returned v ∧ ROctRep w' b l e ∧ Fr (fun k => k = b) w w'

set_option maxRecDepth 100000 in
set_option maxHeartbeats 1000000 in
theorem roct_wrong (w : World) (b : Nat) (l : List UInt8) (e x : Int) (h : ROctRep w b l e) : Calls Try.prog 72 #[.pointer (some ⟨b, 0, none⟩), .int .i64 x] w (RetRO w b (.tuple #[]) [] x) := by
  obtain ⟨a, c, h⟩ := h
  obtain ⟨h0, h1, hf0, hf1⟩ := h.cells
  have HE : Hid (RetRO w b (.tuple #[]) [] x (.returned (.tuple #[])) ((w.setCell ⟨b, 0, none⟩ (.slice none 0 0)).setCell ⟨b, 1, none⟩ (.int .i64 x))) := ⟨rfl, (h.failed x).1, (h.failed x).2⟩
  have hc1 : (w.setCell ⟨b, 0, none⟩ (.slice none 0 0)).cell? ⟨b, 1, none⟩ = some (.int .i64 e) := by rw [cell_of_row _ b _ _ _ _ (roct_set0 h.hd _)]; rfl
  clear h
  go_enter Try.func72, Try.ntmps72
  go_wp2
  go_end0
  exact HE.out

set_option maxRecDepth 100000 in
set_option maxHeartbeats 1000000 in
theorem roct_end (w : World) (b : Nat) (l : List UInt8) (e : Int) (h : ROctRep w b l e) : Calls Try.prog 50 #[.pointer (some ⟨b, 0, none⟩)] w fun en w' => en = .returned (.int .i64 (endE l e)) ∧ (endE l e ≠ 0 → w'.cell? ⟨b, 1, none⟩ = some (.int .i64 (endE l e))) ∧ Fr (fun k => k = b) w w' := by
  have HW := roct_wrong w b l e 4 h
  obtain ⟨a, c, h⟩ := h
  obtain ⟨h0, h1, _⟩ := h.cells
  have hnil : l.length = 0 → l = [] := fun h => List.eq_nil_of_length_eq_zero h
  have HW2 : Hid (Calls Try.prog 72 #[.pointer (some ⟨b, 0, none⟩), .int .i64 4] w fun en w' => en = .returned (.tuple #[]) ∧ w'.cell? ⟨b, 1, none⟩ = some (.int .i64 4) ∧ Fr (fun k => k = b) w w') := HW.mono fun en w' ⟨h1, ⟨a, c, h2⟩, h3⟩ => ⟨h1, h2.cells.2.1, h3⟩
  unfold endE
  by_cases he : e = 0
  · subst he
    by_cases hl : l = []
    · subst hl
      rw [if_pos rfl, if_pos rfl]
      clear h HW HW2
      go_enter Try.func50, Try.ntmps50
      go_wp2
      go_ret
      exact ⟨rfl, Fr.refl _ _⟩
    · rw [if_pos rfl, if_neg hl]
      have hpos : 0 < l.length := List.length_pos_iff.2 hl
      have hd : decide ((0 : Int) < (l.length : Int)) = true := by simp; omega
      clear h HW hnil hl
      generalize l.length = n at *
      go_enter Try.func50, Try.ntmps50
      go_wp2_with (go_at_call 72; refine Calls.mono HW2.out ?_; rintro e w1 ⟨rfl, hc, hF⟩)
      go_ret
      exact ⟨rfl, fun _ => hc, hF⟩
  · rw [if_neg he]
    have hen : (e == 0) = false := by simpa using he
    clear h HW HW2 hnil he
    go_enter Try.func50, Try.ntmps50
    go_wp2
    go_ret
    exact ⟨rfl, fun _ => h1, Fr.refl _ _⟩

/-- What take returns: new bytes; or none, and the error. -/
def RetRTake (w : World) (b : Nat) (l : List UInt8) (n : Nat) (en : Ending) (w' : World) : Prop :=
  (if l.length < n then en = .returned (.slice none 0 0) ∧ ROctRep w' b [] 3 else (∃ v, en = .returned v ∧ Own w' 5 1 v n (bytesV (l.take n))) ∧ ROctRep w' b (l.drop n) 0) ∧ Fr (fun k => k = b) w w'

set_option maxRecDepth 100000 in
set_option maxHeartbeats 2000000 in
theorem roct_take (w : World) (b : Nat) (l : List UInt8) (n : Nat) (h : ROctRep w b l 0) (hl : l.length < 1000000000000) :
    Calls Try.prog 73 #[.pointer (some ⟨b, 0, none⟩), .int .i64 n] w (RetRTake w b l n) := by
  have HW := roct_wrong w b l 0 3 h
  obtain ⟨a, c, hA⟩ := h
  obtain ⟨h0, h1, hf0, _⟩ := hA.cells
  have hbl := lt_of_at hA.hd
  by_cases hlt : l.length < n
  · have hd : decide ((l.length : Int) < (n : Int)) = true := by simp; omega
    have HF2 : Hid (Calls Try.prog 72 #[.pointer (some ⟨b, 0, none⟩), .int .i64 3] w fun e w' => e = .returned (.tuple #[]) ∧ RetRTake w b l n (.returned (.slice none 0 0)) w') := HW.mono fun e w' ⟨he, h1, h2⟩ => by
      unfold RetRTake
      rw [if_pos hlt]
      exact ⟨he, ⟨rfl, h1⟩, h2⟩
    generalize RetRTake w b l n = R at *
    generalize l.length = m at *
    clear hA HW
    go_enter Try.func73, Try.ntmps73
    go_wp2_with (go_at_call 72; refine Calls.mono HF2.out ?_; rintro e w1 ⟨rfl, hR⟩)
    exact hR
  · have hd : decide ((l.length : Int) < (n : Int)) = false := by simp; omega
    obtain ⟨_, HB1, _, hs1⟩ := run_src_begin bytesT hA.src hA.cap n (by omega)
    rw [bytesV_take] at hs1
    obtain ⟨ad, c', hE1, hset⟩ := hA.drop n (by omega)
    have ht1 : (l.take n).length = n := by rw [List.length_take]; omega
    have hown : Own (w.alloc (.cells #[] 5)) 5 1 (.slice (some ⟨w.heap.size, 0, none⟩) 0 0) 0 [] :=
      ⟨rfl, .inr ⟨w.heap.size, 0, #[], rfl, heap_alloc_new w _, Nat.le_refl _, Nat.zero_le _, Nat.zero_le _, rfl⟩⟩
    have hS2 := hs1.below (w' := w.alloc (.cells #[] 5)) ((Below.refl _ w).alloc (Nat.le_refl _) _)
    have HE : Hid (∀ v' w', Appended (w.alloc (.cells #[] 5)) 5 1 (.slice (some ⟨w.heap.size, 0, none⟩) 0 0) 0 n [] (bytesV (l.take n)) v' w' → (∃ a1 n1 c1, v' = .slice a1 n1 c1) ∧ w'.cell? ⟨b, 0, none⟩ = some (.slice a l.length c) ∧ w'.frozen? ⟨b, 0, none⟩ = false ∧ RetRTake w b l n (.returned v') (w'.setCell ⟨b, 0, none⟩ (.slice ad (l.length - n) c'))) := fun v' w' hAp => by
      have hB : Below w.heap.size w w' := ((Below.refl _ w).alloc (Nat.le_refl _) _).grown hAp.grown (by simp) (fun k hk => by simp [Value.ownBlock] at hk; omega)
      have ho : Own w' 5 1 v' n (bytesV (l.take n)) := by simpa using hAp.own
      have hnb : ∀ k, v'.ownBlock = some k → k ≠ b := fun k hk => by
        rcases hAp.block k hk with h | h
        · simp [Value.ownBlock] at h; omega
        · simp at h; omega
      have hhd : w'.heap[b]? = _ := (hB.block b hbl).trans hA.hd
      refine ⟨?_, ?_, frozen_of_row w' b 0 _ _ hhd, ?_⟩
      · obtain ⟨_, a1, c1, e, _⟩ := ho.src
        exact ⟨a1, _, c1, e⟩
      · rw [cell_of_row w' b _ _ _ _ hhd]; rfl
      · unfold RetRTake
        rw [if_neg hlt]
        refine ⟨⟨⟨v', rfl, ?_⟩, hset w' (.inr hB)⟩, ((Fr.of_below hB (fun k => k = b)).setCell ⟨b, 0, none⟩ _ (.inr rfl))⟩
        exact ho.fr ((Fr.refl (fun k => k = b) w').setCell ⟨b, 0, none⟩ _ (.inr rfl)) hnb
    have HB1' := Lib.hid HB1
    have HE1' := Lib.hid hE1
    have hmx : 0 + n ≤ maxLen := by unfold maxLen; omega
    have hone := bytesV_one (l.take n)
    have hmn : n ≤ l.length := by omega
    generalize RetRTake w b l n = R at *
    generalize bytesV (l.take n) = xs at *
    generalize l.length = m at *
    clear hA HB1 hE1 hs1 hset hlt HW ht1
    go_enter Try.func73, Try.ntmps73
    go_wp2_with (first | (with_reducible refine wpList_value (o := ⟨some 26, _, _, _, _, _⟩) rfl (.slice a n c) _ (exec_slice rfl rfl (HB1'.out _)) ?_) | (at_builtin; refine wpList_append_src rfl _ _ 36 36 rfl bytesT bytesT _ 0 [] rfl hown _ n xs rfl hS2 hone hmx (by omega) ?_))
    intro v' w' hAp
    obtain ⟨⟨a1, n1, c1, rfl⟩, hc0, hfz, hR⟩ := HE.out v' w' hAp
    clear hAp hS2 hown
    go_wp2_with (with_reducible refine wpList_value (o := ⟨some 34, _, _, _, _, _⟩) rfl (.slice ad (m - n) c') _ (exec_slice rfl rfl (HE1'.out _)) ?_)
    exact hR
end Go.Proofs.Ytgnnnjabgoadaaa

namespace Go.Proofs.Ytgnnnjabgoadaaa
open Go.RowKit

def RetRVar (w : World) (b : Nat) (R : Except Nat (Nat × List UInt8)) (en : Ending) (w' : World) : Prop := Fr (fun k => k = b) w w' ∧
  match R with
  | .ok (n, r) => en = .returned (.int .i64 n) ∧ ROctRep w' b r 0
  | .error x => en = .returned (.int .i64 0) ∧ ROctRep w' b [] x

theorem ROctAt.byte {w : World} {b : Nat} {l : List UInt8} {e : Int} {a : Option Addr} {c : Nat} (h : ROctAt w b l e a c) (k : Nat) (x : UInt8) (hk : l[k]? = some x) : ∃ ad, a = some ad ∧ w.cell? (ad.add k) = some (.int .u8 x.toNat) := by
  obtain ⟨_, a', c', e1, hc⟩ := h.src
  cases e1
  exact hc k _ (by simp [bytesV, hk])

/-- A group, moved up by one place of seven bits. -/
theorem mul_group (y i : Nat) (hy : y < 128) (hi : i < 8) : IntKind.i64.wrap (((y * 128 ^ i : Nat) : Int) * 128) = ((y * 128 ^ (i + 1) : Nat) : Int) := by
  have h1 : (128 : Nat) ^ (i + 1) ≤ 128 ^ 8 := Nat.pow_le_pow_right (by omega) (by omega)
  have h2 : y * 128 ^ (i + 1) ≤ 127 * 128 ^ 8 := Nat.mul_le_mul (by omega) h1
  have e8 : (128 : Nat) ^ 8 = 72057594037927936 := by decide
  have e : ((y * 128 ^ i : Nat) : Int) * 128 = ((y * 128 ^ (i + 1) : Nat) : Int) := by
    rw [Nat.pow_succ, ← Nat.mul_assoc]; simp
  rw [e, IntKind.wrap_i64]
  omega

theorem add_group (v y k : Nat) (hv : v < 128 ^ k) (hy : y < 128) (hk : k < 9) : IntKind.i64.wrap ((v : Int) + ((y * 128 ^ k : Nat) : Int)) = ((v + y * 128 ^ k : Nat) : Int) := by
  have h1 : y * 128 ^ k + 128 ^ k ≤ 128 * 128 ^ k := by
    have := Nat.mul_le_mul_right (128 ^ k) (show y + 1 ≤ 128 by omega)
    rw [Nat.add_mul, Nat.one_mul] at this
    exact this
  have h2 : (128 : Nat) ^ (k + 1) ≤ 128 ^ 9 := Nat.pow_le_pow_right (by omega) (by omega)
  have e9 : (128 : Nat) ^ 9 = 9223372036854775808 := by decide
  rw [Nat.pow_succ, Nat.mul_comm] at h2
  rw [IntKind.wrap_i64]
  omega

set_option maxRecDepth 100000 in
set_option maxHeartbeats 4000000 in
theorem rvar_any (w : World) (b : Nat) (l : List UInt8) (most : Nat) (h : ROctRep w b l 0) (hl : l.length < 1000000000000) :
    Calls Try.prog 48 #[.pointer (some ⟨b, 0, none⟩), .int .i64 most] w (RetRVar w b (varL l most)) := by
  have hw : ∀ x : Nat, varL l most = .error x → Calls Try.prog 72 #[.pointer (some ⟨b, 0, none⟩), .int .i64 x] w fun e w' => e = .returned (.tuple #[]) ∧ RetRVar w b (varL l most) (.returned (.int .i64 0)) w' := fun x hx => (roct_wrong w b l 0 x h).mono fun e w' ⟨he, h1, h2⟩ => by
    rw [hx]; exact ⟨he, h2, rfl, h1⟩
  have HF3 : Hid (varL l most = .error 3 → Calls Try.prog 72 #[.pointer (some ⟨b, 0, none⟩), .int .i64 3] w fun e w' => e = .returned (.tuple #[]) ∧ RetRVar w b (varL l most) (.returned (.int .i64 0)) w') := hw 3
  have HF4 : Hid (varL l most = .error 4 → Calls Try.prog 72 #[.pointer (some ⟨b, 0, none⟩), .int .i64 4] w fun e w' => e = .returned (.tuple #[]) ∧ RetRVar w b (varL l most) (.returned (.int .i64 0)) w') := hw 4
  have HF5 : Hid (varL l most = .error 5 → Calls Try.prog 72 #[.pointer (some ⟨b, 0, none⟩), .int .i64 5] w fun e w' => e = .returned (.tuple #[]) ∧ RetRVar w b (varL l most) (.returned (.int .i64 0)) w') := hw 5
  clear hw
  obtain ⟨a, c, hA⟩ := h
  obtain ⟨h0, h1, hf0, _⟩ := hA.cells
  have HB := Lib.hid hA.byte
  have HD : Hid (∀ k v : Nat, k < l.length → ∃ ad c', (∀ w1, (Instr.sliceAt 36 (.slice a l.length c) (some (.int .i64 ((k : Int) + 1))) none none).run Try.prog w1 = .ok (.slice ad (l.length - (k + 1)) c') w1) ∧
      (varL l most = .ok (v, l.drop (k + 1)) → RetRVar w b (varL l most) (.returned (.int .i64 v)) (w.setCell ⟨b, 0, none⟩ (.slice ad (l.length - (k + 1)) c')))) := fun k v hk => by
    obtain ⟨ad, c', hr, hs⟩ := hA.drop (k + 1) (by omega)
    refine ⟨ad, c', hr, fun he => ?_⟩
    rw [he]
    exact ⟨(Fr.refl (fun k => k = b) w).setCell ⟨b, 0, none⟩ _ (.inr rfl), rfl, hs w (.inl rfl)⟩
  have hstep : ∀ (k : Nat) (x : UInt8), l[k]? = some x → groupL k (l.drop k) = if k = 9 then .error 4 else if 128 ≤ x.toNat then groupL (k + 1) (l.drop (k + 1)) else if x.toNat = 0 ∧ 0 < k then .error 4 else .ok (k + 1) := fun k x hk => groupL_step k hk
  have HST := Lib.hid hstep
  have hend : ∀ k, l.length ≤ k → groupL k (l.drop k) = .error 3 := fun k hk => by rw [List.drop_of_length_le hk]; rfl
  have HEND := Lib.hid hend
  have hget : ∀ k, k < l.length → ∃ x, l[k]? = some x := fun k hk => ⟨_, List.getElem?_eq_getElem hk⟩
  have HGET := Lib.hid hget
  have HV : Hid (varL l most = match groupL 0 l with | .error e => .error e | .ok k => if most < valL (l.take k) then .error 5 else .ok (valL (l.take k), l.drop k)) := rfl
  have HVS : Hid (∀ j x, l[j]? = some x → valL (l.take (j + 1)) = valL (l.take j) + x.toNat % 128 * 128 ^ j ∧ valL (l.take j) < 128 ^ j) := fun j x hj => ⟨valL_step hj, valL_small l j⟩
  have H0 : Hid (groupL 0 l = groupL 0 (l.drop 0)) := rfl
  clear hstep hend hget hA
  generalize RetRVar w b (varL l most) = R at *
  generalize varL l most = V at *
  generalize groupL 0 l = G at *
  generalize hn : l.length = n at *
  clear hn
  go_enter Try.func48, Try.ntmps48
  go_wp2_with fail
  go_loop [5, 6, 7, 8] (fun v i _ _ => ∃ k : Nat, i = .int .i64 k ∧ v = .int .i64 (valL (l.take k) : Nat) ∧ k ≤ n ∧ k ≤ 9 ∧ G = groupL k (l.drop k)) (fun _ i _ _ => n - (intOf i).toNat)
  case atStart => exact ⟨0, rfl, rfl, by omega, by omega, H0.out⟩
  case round =>
    obtain ⟨k, rfl, rfl, hk, hk9, hG⟩ := hrel
    have HG := Lib.hid hG
    clear hG H0
    by_cases hlt : k < n
    · obtain ⟨x, hx⟩ := HGET.out k hlt
      obtain ⟨ad, rfl, hcx⟩ := HB.out k x hx
      obtain ⟨hv1, hv2⟩ := HVS.out k x hx
      have hg := HG.out
      rw [HST.out k x hx] at hg
      have hxl := x.toNat_lt
      clear hx
      generalize x.toNat = y at *
      by_cases h9 : k = 9
      · rw [if_pos h9] at hg
        have hk9b : (((k : Nat) : Int) == 9) = true := by rw [beq_iff_eq]; omega
        have hVe := HV.out
        rw [hg] at hVe
        have HC := Lib.hid (HF4.out hVe)
        clear hg h9 hVe hv1 hv2
        generalize valL (l.take k) = v at *
        go_wp2_with (go_at_call 72; refine Calls.mono HC.out ?_; rintro e w' ⟨rfl, hR⟩)
        exact hR
      · rw [if_neg h9] at hg
        have hk9b : (((k : Nat) : Int) == 9) = false := by rw [beq_eq_false_iff_ne]; omega
        have hym : y % 128 < 128 := Nat.mod_lt _ (by omega)
        have HADD := Lib.hid (add_group (valL (l.take k)) (y % 128) k hv2 hym (by omega))
        have HV1 := Lib.hid hv1
        have HGG := Lib.hid hg
        clear hv1 hv2 hg
        generalize hvv : valL (l.take k) = v at *
        go_wp2_with fail
        go_loop [7, 8] (fun d i => ∃ j : Nat, i = .int .i64 j ∧ j ≤ k ∧ d = .int .i64 (y % 128 * 128 ^ j : Nat)) (fun _ i => k - (intOf i).toNat)
        case atStart => exact ⟨0, rfl, by omega, by simp⟩
        case round =>
          obtain ⟨j, rfl, hj, rfl⟩ := hrel
          by_cases hjk : j < k
          · have HM := Lib.hid (mul_group (y % 128) j hym (by omega))
            go_wp2_with fail
            exact ⟨⟨j + 1, by go_num, by omega, by rw [← HM.out]; first | rfl | simp [IntKind.wrap_i64, wrap64]⟩, by simp [intOf]; omega⟩
          · obtain rfl : j = k := by omega
            have hsm := HVS.out
            have hvd : v + y % 128 * 128 ^ j < 9223372036854775808 := by
              have h1 := valL_small l (j + 1)
              rw [HV1.out] at h1
              have h2 : (128 : Nat) ^ (j + 1) ≤ 128 ^ 9 := Nat.pow_le_pow_right (by omega) (by omega)
              have e : (128 : Nat) ^ 9 = 9223372036854775808 := by decide
              omega
            obtain ⟨ad', c', hsl, hret⟩ := HD.out j (valL (l.take (j + 1))) hlt
            have HSL := Lib.hid hsl
            have HRET := Lib.hid hret
            clear hsl hret hsm hvv
            rw [HV1.out] at HRET
            generalize y % 128 * 128 ^ j = d at *
            by_cases h128 : 128 ≤ y
            · have hg := HGG.out
              rw [if_pos h128] at hg
              have HG2 := Lib.hid hg
              have hd : decide ((y : Int) < 128) = false := decide_eq_false (by omega)
              have hj8 : j + 1 ≤ 9 := by omega
              clear hg h9
              go_wp2_with fail
              go_round
              case rel => exact ⟨j + 1, by go_num, by rw [HV1.out]; go_num, by omega, hj8, HG2.out⟩
              case measure => simp [intOf]; omega
            · have hg := HGG.out
              rw [if_neg h128] at hg
              have hd : decide ((y : Int) < 128) = true := decide_eq_true (by omega)
              by_cases hz : y = 0 ∧ 0 < j
              · rw [if_pos hz] at hg
                have hVe := HV.out
                rw [hg] at hVe
                have HC := Lib.hid (HF4.out hVe)
                obtain ⟨rfl, hj0⟩ := hz
                clear hg hVe h9
                go_wp2_with (go_at_call 72; refine Calls.mono HC.out ?_; rintro e w' ⟨rfl, hR⟩)
                exact hR
              · rw [if_neg hz] at hg
                have hVe := HV.out
                rw [hg] at hVe
                simp only at hVe
                rw [HV1.out] at hVe
                have HZ : (0 < j → (((y : Nat) : Int) == 0) = false) := fun h0 => by rw [beq_eq_false_iff_ne]; omega
                by_cases hgt : most < v + d
                · rw [if_pos hgt] at hVe
                  have HC := Lib.hid (HF5.out hVe)
                  have hd2 : decide ((most : Int) < (v : Int) + (d : Int)) = true := decide_eq_true (by omega)
                  clear hg hVe h9
                  by_cases hj0 : 0 < j
                  · have hyb := HZ hj0
                    clear HZ hz
                    go_wp2_with (go_at_call 72; refine Calls.mono HC.out ?_; rintro e w' ⟨rfl, hR⟩)
                    exact hR
                  · clear HZ hz
                    go_wp2_with (go_at_call 72; refine Calls.mono HC.out ?_; rintro e w' ⟨rfl, hR⟩)
                    exact hR
                · rw [if_neg hgt] at hVe
                  have HE := Lib.hid (HRET.out hVe)
                  have hd2 : decide ((most : Int) < (v : Int) + (d : Int)) = false := decide_eq_false (by omega)
                  clear hg hVe h9
                  by_cases hj0 : 0 < j
                  · have hyb := HZ hj0
                    clear HZ hz
                    go_wp2_with (with_reducible refine wpList_value (o := ⟨some 82, _, _, _, _, _⟩) rfl (.slice ad' (n - (j + 1)) c') w (exec_slice rfl rfl (HSL.out w)) ?_)
                    exact HE.out
                  · clear HZ hz
                    go_wp2_with (with_reducible refine wpList_value (o := ⟨some 82, _, _, _, _, _⟩) rfl (.slice ad' (n - (j + 1)) c') w (exec_slice rfl rfl (HSL.out w)) ?_)
                    exact HE.out
    · have hg := HG.out
      rw [HEND.out k (by omega)] at hg
      have hVe := HV.out
      rw [hg] at hVe
      have HC := Lib.hid (HF3.out hVe)
      clear hg hVe
      generalize valL (l.take k) = v at *
      go_wp2_with (go_at_call 72; refine Calls.mono HC.out ?_; rintro e w' ⟨rfl, hR⟩)
      exact hR
end Go.Proofs.Ytgnnnjabgoadaaa

namespace Go.Proofs.Ytgnnnjabgoadaaa
open Go.RowKit

set_option maxRecDepth 100000 in
set_option maxHeartbeats 1000000 in
theorem rtext_err (w : World) (b : Nat) (l : List UInt8) (most e : Int) (he : e ≠ 0) (h : ROctRep w b l e) :
    Calls Try.prog 49 #[.pointer (some ⟨b, 0, none⟩), .int .i64 most] w fun en w' => en = .returned (.slice none 0 0) ∧ w = w' := by
  obtain ⟨a, c, h⟩ := h
  obtain ⟨h0, h1, _⟩ := h.cells
  have hb : (e == 0) = false := by simpa using he
  have HV : Hid (Calls Try.prog 48 #[.pointer (some ⟨b, 0, none⟩), .int .i64 most] w fun en w' => en = .returned (.int .i64 0) ∧ w = w') := by
    clear he h
    show Calls _ _ _ _ _
    go_enter Try.func48, Try.ntmps48
    go_wp2
    go_ret
    exact ⟨rfl, rfl⟩
  clear he h
  go_enter Try.func49, Try.ntmps49
  go_wp2_with (go_at_call 48; refine HV.out.mono ?_; rintro e w' ⟨rfl, rfl⟩)
  go_ret
  exact ⟨rfl, rfl⟩

/-- What Text returns. -/
def RetRText (w : World) (b : Nat) (R : Except Nat (List UInt8 × List UInt8)) (en : Ending) (w' : World) : Prop := Fr (fun k => k = b) w w' ∧ ∃ a m c, en = .returned (.slice a m c) ∧
  match R with
  | .ok (x, r) => (convert 36 9 (.slice a m c)).run Try.prog w' = .ok (.string ⟨x.toArray⟩) w' ∧ ROctRep w' b r 0
  | .error y => (convert 36 9 (.slice a m c)).run Try.prog w' = .ok (.string ⟨#[]⟩) w' ∧ ROctRep w' b [] y

set_option maxRecDepth 100000 in
set_option maxHeartbeats 2000000 in
theorem rtext_any (w : World) (b : Nat) (l : List UInt8) (most : Nat) (h : ROctRep w b l 0) (hl : l.length < 1000000000000) :
    Calls Try.prog 49 #[.pointer (some ⟨b, 0, none⟩), .int .i64 most] w (RetRText w b (textL l most)) := by
  have hV := rvar_any w b l most h hl
  cases hv : varL l most with
  | error x =>
    have ht : textL l most = .error x := by unfold textL; rw [hv]
    rw [ht]
    have hx : ((x : Int) == 0) = false := by rw [beq_eq_false_iff_ne]; rcases varL_err hv with h | h | h <;> omega
    have HV : Hid (Calls Try.prog 48 #[.pointer (some ⟨b, 0, none⟩), .int .i64 most] w fun e w' => e = .returned (.int .i64 0) ∧ w'.cell? ⟨b, 1, none⟩ = some (.int .i64 x) ∧ RetRText w b (.error x) (.returned (.slice none 0 0)) w') := hV.mono fun e w' hr => by
      rw [hv] at hr
      obtain ⟨a, c, h2⟩ := hr.2.2
      exact ⟨hr.2.1, h2.cells.2.1, hr.1, none, 0, 0, rfl, run_conv_nil w' 0, hr.2.2⟩
    generalize RetRText w b (.error x) = R at *
    clear hV hv ht h
    go_enter Try.func49, Try.ntmps49
    go_wp2_with (go_at_call 48; refine Calls.mono HV.out ?_; rintro e w1 ⟨rfl, hc1, hR⟩)
    exact hR
  | ok p =>
    obtain ⟨n, r⟩ := p
    have hr2 := (varL_len hv).1
    have HV : Hid (Calls Try.prog 48 #[.pointer (some ⟨b, 0, none⟩), .int .i64 most] w fun e w' => e = .returned (.int .i64 n) ∧ w'.cell? ⟨b, 1, none⟩ = some (.int .i64 0) ∧
        (Calls Try.prog 73 #[.pointer (some ⟨b, 0, none⟩), .int .i64 n] w' fun e w2 => ∃ a m c, e = .returned (.slice a m c) ∧ RetRText w b (textL l most) (.returned (.slice a m c)) w2)) := hV.mono fun e w' hr => by
      rw [hv] at hr
      obtain ⟨hF, he, hO⟩ := hr
      have hc1 : w'.cell? ⟨b, 1, none⟩ = some (.int .i64 0) := by obtain ⟨a, c, h2⟩ := hO; exact h2.cells.2.1
      refine ⟨he, hc1, (roct_take w' b r n hO (by omega)).mono fun e w2 ⟨h2, h3⟩ => ?_⟩
      have hF2 := hF.trans h3 (fun _ _ h => h)
      by_cases hlt : r.length < n
      · have ht : textL l most = .error 3 := by unfold textL; rw [hv]; simp only; rw [if_pos hlt]
        rw [if_pos hlt] at h2
        rw [ht]
        exact ⟨none, 0, 0, h2.1, hF2, none, 0, 0, rfl, run_conv_nil w2 0, h2.2⟩
      · have ht : textL l most = .ok (r.take n, r.drop n) := by unfold textL; rw [hv]; simp only; rw [if_neg hlt]
        rw [if_neg hlt] at h2
        rw [ht]
        obtain ⟨⟨v, hen, ho⟩, h4⟩ := h2
        have hn : (r.take n).length = n := by rw [List.length_take]; omega
        have ho2 : Own w2 5 1 v (r.take n).length (bytesV (r.take n)) := by rw [hn]; exact ho
        have hcv := run_conv_any ho2
        obtain ⟨_, a', c', rfl, _⟩ := ho.src
        exact ⟨a', _, c', hen, hF2, a', _, c', rfl, hcv, h4⟩
    generalize RetRText w b (textL l most) = R at *
    clear hV hv h
    go_enter Try.func49, Try.ntmps49
    go_wp2_with (first | (go_at_call 48; refine Calls.mono HV.out ?_; rintro e w1 ⟨rfl, hc1, hT⟩) | (go_at_call 73; refine Calls.mono hT ?_; rintro e w2 ⟨a, m, c, rfl, hR⟩))
    exact hR
end Go.Proofs.Ytgnnnjabgoadaaa
