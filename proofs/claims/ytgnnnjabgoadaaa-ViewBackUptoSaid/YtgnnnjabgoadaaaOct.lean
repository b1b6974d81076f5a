/- What is proved here: plain facts on numbers of seven bits a byte, and texts behind their length. No program is named. No condition. octet's source: ok, fail, take, group, Err, Left, End, Read. Their condition: fewer than 10^12 bytes. octet's source: take, group, Var, Text, End, Read; slices.Clone of bytes. Their condition: fewer than 10^12 bytes. octet's source: group, Var, Text, End. Their condition: fewer than 10^12 bytes. octet's source: Var, Text, End. Their condition: fewer than 10^12 bytes. octet's source: Text, End. Their condition: fewer than 10^12 bytes. -/
import Derived.Test.YtgnnnjabgoadaaaBase
import Derived.Test.YtgnnnjabgoadaaaRNum
namespace Go.Proofs.Ytgnnnjabgoadaaa

/-- How many bytes a number takes, or the error. -/
def groupL : Nat → List UInt8 → Except Nat Nat
  | _, [] => .error 3
  | i, c :: r => if i = 9 then .error 4 else if 128 ≤ c.toNat then groupL (i + 1) r else if c.toNat = 0 ∧ 0 < i then .error 4 else .ok (i + 1)

/-- The value of groups of seven bits, the first the least. -/
def valL : List UInt8 → Nat
  | [] => 0
  | c :: r => c.toNat % 128 + 128 * valL r

def varL (l : List UInt8) (most : Nat) : Except Nat (Nat × List UInt8) :=
  match groupL 0 l with
  | .error e => .error e
  | .ok k => if most < valL (l.take k) then .error 5 else .ok (valL (l.take k), l.drop k)

def textL (l : List UInt8) (most : Nat) : Except Nat (List UInt8 × List UInt8) :=
  match varL l most with
  | .error e => .error e
  | .ok (n, r) => if r.length < n then .error 3 else .ok (r.take n, r.drop n)

theorem groupL_step {i : Nat} {l : List UInt8} {c : UInt8} (k : Nat) (h : l[k]? = some c) : groupL i (l.drop k) = if i = 9 then .error 4 else if 128 ≤ c.toNat then groupL (i + 1) (l.drop (k + 1)) else if c.toNat = 0 ∧ 0 < i then .error 4 else .ok (i + 1) := by
  have hk : k < l.length := (List.getElem?_eq_some_iff.1 h).1
  have e : l[k] = c := (List.getElem?_eq_some_iff.1 h).2
  rw [List.drop_eq_getElem_cons hk, e, groupL]

theorem groupL_ok : ∀ {l : List UInt8} {k i : Nat}, i ≤ 9 → groupL i l = .ok k → i < k ∧ k ≤ 9 ∧ k - i ≤ l.length
  | [], _, _, _, h => by simp [groupL] at h
  | c :: r, k, i, hi, h => by
    rw [groupL] at h
    split at h
    · cases h
    · split at h
      · have := groupL_ok (l := r) (k := k) (i := i + 1) (by omega) h
        simp; omega
      · split at h
        · cases h
        · cases h; simp; omega

theorem valL_snoc : ∀ (l : List UInt8) (c : UInt8), valL (l ++ [c]) = valL l + c.toNat % 128 * 128 ^ l.length
  | [], c => by simp [valL]
  | x :: l, c => by
    rw [List.cons_append, valL, valL, valL_snoc l c, List.length_cons, Nat.pow_succ, Nat.mul_add, ← Nat.mul_assoc, Nat.mul_comm 128 (c.toNat % 128), Nat.mul_assoc, Nat.mul_comm 128 (128 ^ l.length)]
    omega
theorem valL_lt : ∀ (l : List UInt8), valL l < 128 ^ l.length
  | [] => by simp [valL]
  | x :: l => by
    have := valL_lt l
    rw [valL, List.length_cons, Nat.pow_succ]
    omega
theorem valL_step {l : List UInt8} {k : Nat} {c : UInt8} (h : l[k]? = some c) : valL (l.take (k + 1)) = valL (l.take k) + c.toNat % 128 * 128 ^ k := by
  have hk : k < l.length := (List.getElem?_eq_some_iff.1 h).1
  have e : l.take (k + 1) = l.take k ++ [c] := by rw [List.take_add_one, h]; rfl
  rw [e, valL_snoc, List.length_take, Nat.min_eq_left (by omega)]
theorem valL_small (l : List UInt8) (k : Nat) : valL (l.take k) < 128 ^ k := by
  have h1 := valL_lt (l.take k)
  have h2 : (l.take k).length ≤ k := by rw [List.length_take]; omega
  exact Nat.lt_of_lt_of_le h1 (Nat.pow_le_pow_right (by omega) h2)

theorem varL_len {l : List UInt8} {most n : Nat} {r : List UInt8} (h : varL l most = .ok (n, r)) : r.length < l.length ∧ n ≤ most := by
  unfold varL at h
  split at h
  · cases h
  · rename_i k hk
    split at h
    · cases h
    · cases h
      have := groupL_ok (by omega) hk
      rw [List.length_drop]
      omega
theorem textL_len {l : List UInt8} {most : Nat} {x r : List UInt8} (h : textL l most = .ok (x, r)) : r.length + x.length < l.length := by
  unfold textL at h
  split at h
  · cases h
  · rename_i n r' hv
    have := (varL_len hv).1
    split at h
    · cases h
    · cases h
      rw [List.length_drop, List.length_take]
      omega
end Go.Proofs.Ytgnnnjabgoadaaa

namespace Go.Proofs.Ytgnnnjabgoadaaa
open Go.RowKit

section
variable {P : Program} {w : World}
/-- x[i:], x a source with room n ≤ c. -/
theorem run_src_end {t e : TypeId} {z : Value} {size bytes : Nat} (T : SliceT P t e z size bytes) {n : Nat} {xs : List Value} {ad : Option Addr} {c : Nat} (hs : Src w size (.slice ad n c) n xs) (hnc : n ≤ c) (i : Nat) (hi : i ≤ n) :
    ∃ ad' c', (∀ w1, (Instr.sliceAt t (.slice ad n c) (some (.int .i64 i)) none none).run P w1 = .ok (.slice ad' (n - i) c') w1) ∧ Src w size (.slice ad' (n - i) c') (n - i) (xs.drop (i * size)) ∧ n - i ≤ c' ∧ Value.ownBlock (.slice ad' (n - i) c') = Value.ownBlock (.slice ad n c) := by
  have hu : P.underlying t = some (.slice (P.elem t)) := by rw [elem_of T.und]; exact T.und
  obtain ⟨inf, hinf, _, hz1, _⟩ := info_parts T.info
  have hsz : ∀ w, (sizeOf (P.elem t)).run P w = .ok size w := fun w => by rw [elem_of T.und]; simp [sizeOf, typeInfo, hinf, hz1]
  obtain ⟨hl, b, c', hv, hc⟩ := hs
  cases hv
  refine ⟨if c = i then ad else ad.map (·.add (i * size)), c - i, ?_, ?_, by omega, ?_⟩
  · intro w
    rw [run_sliceAt_slice w t _ _ _ _ hu, run_slice_l w t ad n c hu .i64 i (by omega) (by omega), hsz]
    simp only [Result.andThen, sliced, Int.toNat_natCast]
  · refine ⟨by rw [List.length_drop, hl, ← Nat.sub_mul], _, _, rfl, fun j u hj => ?_⟩
    rw [List.getElem?_drop] at hj
    obtain ⟨x, rfl, hx⟩ := hc _ u hj
    have hi' : i ≠ c := by
      intro e
      subst e
      have : n = i := by omega
      subst this
      rw [List.getElem?_eq_none (by omega)] at hj
      cases hj
    refine ⟨x.add (i * size), by rw [if_neg (fun e => hi' e.symm)]; rfl, ?_⟩
    have e : (x.add (i * size)).add j = x.add (i * size + j) := by
      unfold Addr.add
      by_cases h1 : i * size = 0 <;> by_cases h2 : j = 0 <;> simp [h1, h2, Nat.add_assoc]
    rw [e]
    exact hx
  · split
    · cases ad <;> rfl
    · cases ad with
      | none => rfl
      | some x => show some _ = some _; unfold Addr.add; split <;> rfl

/-- x[:i:i] and x[:i]. -/
theorem run_src_begin {t e : TypeId} {z : Value} {size bytes : Nat} (T : SliceT P t e z size bytes) {n : Nat} {xs : List Value} {ad : Option Addr} {c : Nat} (hs : Src w size (.slice ad n c) n xs) (hnc : n ≤ c) (i : Nat) (hi : i ≤ n) :
    (∀ w1, (Instr.sliceAt t (.slice ad n c) none (some (.int .i64 i)) (some (.int .i64 i))).run P w1 = .ok (.slice ad i i) w1) ∧ (∀ w1, (Instr.sliceAt t (.slice ad n c) none (some (.int .i64 i)) none).run P w1 = .ok (.slice ad i c) w1) ∧
      Src w size (.slice ad i i) i (xs.take (i * size)) ∧ Src w size (.slice ad i c) i (xs.take (i * size)) := by
  have hu : P.underlying t = some (.slice (P.elem t)) := by rw [elem_of T.und]; exact T.und
  obtain ⟨inf, hinf, _, hz1, _⟩ := info_parts T.info
  have hsz : ∀ w, (sizeOf (P.elem t)).run P w = .ok size w := fun w => by rw [elem_of T.und]; simp [sizeOf, typeInfo, hinf, hz1]
  obtain ⟨hl, b, c', hv, hc⟩ := hs
  cases hv
  have hid : ∀ m : Nat, (if m = 0 then ad else ad.map (·.add 0)) = ad := fun m => by
    cases ad with
    | none => simp
    | some x => simp [Addr.add]
  have hr : ∀ m, Src w size (.slice ad i m) i (xs.take (i * size)) := fun m =>
    ⟨by rw [List.length_take, hl]; exact Nat.min_eq_left (Nat.mul_le_mul_right _ hi), ad, m, rfl, fun j u hj => hc j u (by
      rw [List.getElem?_take] at hj
      split at hj
      · exact hj
      · cases hj)⟩
  refine ⟨fun w => ?_, fun w => ?_, hr i, hr c⟩
  · rw [run_sliceAt_slice w t _ _ _ _ hu, run_slice_hm w t ad n c hu .i64 .i64 i i (by omega) (by omega) (by omega), hsz]
    simp only [Result.andThen, sliced, Int.toNat_natCast, Nat.sub_zero, Nat.zero_mul, hid]
  · rw [run_sliceAt_slice w t _ _ _ _ hu, run_slice_h w t ad n c hu .i64 i (by omega) (by omega), hsz]
    simp only [Result.andThen, sliced, Int.toNat_natCast, Nat.sub_zero, Nat.zero_mul, hid]
end

/-- A source in memory: what is left of its bytes, and its error. -/
structure OctAt (w : World) (b g : Nat) (l : List UInt8) (e : Int) (a : Option Addr) (c : Nat) : Prop where
  hd : w.heap[b]? = some (.cells #[.slice a l.length c, .int .i64 e, .bool true] 104 (0, 0))
  src : Src w 1 (.slice a l.length c) l.length (bytesV l)
  cap : l.length ≤ c
  ne : Value.ownBlock (.slice a l.length c) ≠ some b
  dat : ∀ k, Value.ownBlock (.slice a l.length c) = some k → k = g

def OctRep (w : World) (b g : Nat) (l : List UInt8) (e : Int) : Prop := ∃ a c, OctAt w b g l e a c

theorem OctAt.cells {w : World} {b g : Nat} {l : List UInt8} {e : Int} {a : Option Addr} {c : Nat} (h : OctAt w b g l e a c) :
    w.cell? ⟨b, 0, none⟩ = some (.slice a l.length c) ∧ w.cell? ⟨b, 1, none⟩ = some (.int .i64 e) ∧ w.cell? ⟨b, 2, none⟩ = some (.bool true) ∧ w.frozen? ⟨b, 0, none⟩ = false ∧ w.frozen? ⟨b, 1, none⟩ = false := by
  refine ⟨?_, ?_, ?_, frozen_of_row w b 0 _ _ h.hd, frozen_of_row w b 1 _ _ h.hd⟩
  all_goals rw [cell_of_row w b _ _ _ _ h.hd]; rfl

theorem OctAt.below {w w' : World} {b g : Nat} {l : List UInt8} {e : Int} {a : Option Addr} {c : Nat} (h : OctAt w b g l e a c) (hb : Below w.heap.size w w') : OctAt w' b g l e a c :=
  ⟨by rw [hb.block b (lt_of_at h.hd)]; exact h.hd, h.src.below hb, h.cap, h.ne, h.dat⟩

theorem OctRep.below {w w' : World} {b g : Nat} {l : List UInt8} {e : Int} (h : OctRep w b g l e) (hb : Below w.heap.size w w') : OctRep w' b g l e := by
  obtain ⟨a, c, h⟩ := h; exact ⟨a, c, h.below hb⟩

theorem oct_set0 {w : World} {b : Nat} {x e m : Value} {t : TypeId} (h : w.heap[b]? = some (.cells #[x, e, m] t (0, 0))) (v : Value) : (w.setCell ⟨b, 0, none⟩ v).heap[b]? = some (.cells #[v, e, m] t (0, 0)) := by
  rw [setCell_eq_setRow w b 0 _ _ _ v h]; exact setRow_heap w b _ _ _ _ h
theorem oct_set1 {w : World} {b : Nat} {x e m : Value} {t : TypeId} (h : w.heap[b]? = some (.cells #[x, e, m] t (0, 0))) (v : Value) : (w.setCell ⟨b, 1, none⟩ v).heap[b]? = some (.cells #[x, v, m] t (0, 0)) := by
  rw [setCell_eq_setRow w b 1 _ _ _ v h]; exact setRow_heap w b _ _ _ _ h

set_option maxRecDepth 100000 in
set_option maxHeartbeats 1000000 in
theorem oct_ok (w : World) (b g : Nat) (l : List UInt8) (e : Int) (h : OctRep w b g l e) : Calls Try.prog 65 #[.pointer (some ⟨b, 0, none⟩)] w fun en w' => en = .returned (.bool (e == 0)) ∧ w = w' := by
  obtain ⟨a, c, h⟩ := h
  obtain ⟨h0, h1, h2, _⟩ := h.cells
  clear h
  go_enter Try.func65, Try.ntmps65
  go_wp2
  go_ret
  exact ⟨rfl, rfl⟩

/-- The source after a failure. -/
theorem oct_failed {w : World} {b g : Nat} {l : List UInt8} {e : Int} (h : OctRep w b g l e) (x : Int) : OctRep ((w.setCell ⟨b, 0, none⟩ (.slice none 0 0)).setCell ⟨b, 1, none⟩ (.int .i64 x)) b g [] x ∧ Fr (fun k => k = b) w ((w.setCell ⟨b, 0, none⟩ (.slice none 0 0)).setCell ⟨b, 1, none⟩ (.int .i64 x)) := by
  obtain ⟨a, c, h⟩ := h
  refine ⟨⟨none, 0, ⟨oct_set1 (oct_set0 h.hd _) _, ⟨rfl, none, 0, rfl, fun j u hj => by cases hj⟩, Nat.le_refl _, by simp [Value.ownBlock], by simp [Value.ownBlock]⟩⟩, ?_⟩
  exact ((Fr.refl (fun k => k = b) w).setCell ⟨b, 0, none⟩ _ (.inr rfl)).setCell ⟨b, 1, none⟩ _ (.inr rfl)

def RetO (w : World) (b g : Nat) (v : Value) (l : List UInt8) (e : Int) (en : Ending) (w' : World) : Prop := en = .returned v ∧ OctRep w' b g l e ∧ Fr (fun k => k = b) w w'

set_option maxRecDepth 100000 in
set_option maxHeartbeats 1000000 in
theorem oct_fail (w : World) (b g : Nat) (l : List UInt8) (x : Int) (h : OctRep w b g l 0) : Calls Try.prog 67 #[.pointer (some ⟨b, 0, none⟩), .int .i64 x] w (RetO w b g (.tuple #[]) [] x) := by
  have HO := Lib.hid (oct_ok w b g l 0 h)
  have HF := Lib.hid (oct_failed h x)
  obtain ⟨a, c, h⟩ := h
  obtain ⟨h0, h1, _, hf0, hf1⟩ := h.cells
  have HE : Hid (RetO w b g (.tuple #[]) [] x (.returned (.tuple #[])) ((w.setCell ⟨b, 0, none⟩ (.slice none 0 0)).setCell ⟨b, 1, none⟩ (.int .i64 x))) := ⟨rfl, HF.out.1, HF.out.2⟩
  have hc1 : (w.setCell ⟨b, 0, none⟩ (.slice none 0 0)).cell? ⟨b, 1, none⟩ = some (.int .i64 0) := by rw [cell_of_row _ b _ _ _ _ (oct_set0 h.hd _)]; rfl
  clear h HF
  go_enter Try.func67, Try.ntmps67
  go_wp2_with (go_at_call 65; refine HO.out.mono ?_; rintro e w' ⟨rfl, rfl⟩)
  go_end0
  exact HE.out

set_option maxRecDepth 100000 in
set_option maxHeartbeats 1000000 in
theorem oct_err (w : World) (b g : Nat) (l : List UInt8) (e : Int) (h : OctRep w b g l e) : Calls Try.prog 42 #[.pointer (some ⟨b, 0, none⟩)] w fun en w' => en = .returned (.int .i64 e) ∧ w = w' := by
  obtain ⟨a, c, h⟩ := h
  obtain ⟨h0, h1, h2, _⟩ := h.cells
  clear h
  go_enter Try.func42, Try.ntmps42
  go_wp2
  go_ret
  exact ⟨rfl, rfl⟩

set_option maxRecDepth 100000 in
set_option maxHeartbeats 1000000 in
theorem oct_left (w : World) (b g : Nat) (l : List UInt8) (e : Int) (h : OctRep w b g l e) : Calls Try.prog 69 #[.pointer (some ⟨b, 0, none⟩)] w fun en w' => en = .returned (.int .i64 (if e = 0 then (l.length : Int) else 0)) ∧ w = w' := by
  have HO := Lib.hid (oct_ok w b g l e h)
  obtain ⟨a, c, h⟩ := h
  obtain ⟨h0, h1, h2, _⟩ := h.cells
  clear h
  by_cases he : e = 0
  · have hb : (e == 0) = true := by simpa using he
    rw [if_pos he]
    rw [hb] at HO
    clear he
    go_enter Try.func69, Try.ntmps69
    go_wp2_with (go_at_call 65; refine HO.out.mono ?_; rintro e w' ⟨rfl, rfl⟩)
    go_ret
    exact ⟨rfl, rfl⟩
  · have hb : (e == 0) = false := by simpa using he
    rw [if_neg he]
    rw [hb] at HO
    clear he
    go_enter Try.func69, Try.ntmps69
    go_wp2_with (go_at_call 65; refine HO.out.mono ?_; rintro e w' ⟨rfl, rfl⟩)
    go_ret
    exact ⟨rfl, rfl⟩
end Go.Proofs.Ytgnnnjabgoadaaa

namespace Go.Proofs.Ytgnnnjabgoadaaa
open Go.RowKit

/-- A new slice of bytes is returned. -/
def RetBytes (w : World) (l : List UInt8) (e : Ending) (w' : World) : Prop := ∃ v, e = .returned v ∧ Own w' 5 1 v l.length (bytesV l) ∧ (∀ g, v.ownBlock = some g → w.heap.size ≤ g) ∧ Below w.heap.size w w'

set_option maxRecDepth 100000 in
set_option maxHeartbeats 1000000 in
theorem cloneB_any (w : World) (y : Value) (l : List UInt8) (h : Src w 1 y l.length (bytesV l)) (hl : l.length < 1000000000000) : Calls Try.prog 64 #[y] w (RetBytes w l) := by
  have hS := h
  obtain ⟨_, a, c, rfl, hc⟩ := h
  cases a with
  | none =>
    have he : l = [] := by
      cases l with
      | nil => rfl
      | cons x r => obtain ⟨_, e, _⟩ := hc 0 _ rfl; cases e
    subst he
    have HE : Hid (RetBytes w [] (.returned (.slice none 0 0)) w) := ⟨_, rfl, Own.nil _ _ _, fun g hg => by simp [Value.ownBlock] at hg, Below.refl _ _⟩
    have hsn := fun (w : World) => Lib.run_eql_slice_nil (P := Try.prog) w 36 5 none 0 c 0 0 bytesT.und
    rw [List.length_nil]
    generalize RetBytes w [] = R at *
    clear hS hc
    go_enter Try.func64, Try.ntmps64
    go_wp2
    exact HE.out
  | some ad =>
    have hown : Own (w.alloc (.cells #[] 5)) 5 1 (.slice (some ⟨w.heap.size, 0, none⟩) 0 0) 0 [] :=
      ⟨rfl, .inr ⟨w.heap.size, 0, #[], rfl, heap_alloc_new w _, Nat.le_refl _, Nat.zero_le _, Nat.zero_le _, rfl⟩⟩
    have hS2 := hS.below (w' := w.alloc (.cells #[] 5)) ((Below.refl _ w).alloc (Nat.le_refl _) _)
    have HE : Hid (∀ v' w', Appended (w.alloc (.cells #[] 5)) 5 1 (.slice (some ⟨w.heap.size, 0, none⟩) 0 0) 0 l.length [] (bytesV l) v' w' → RetBytes w l (.returned v') w') := fun v' w' hA => by
      refine ⟨v', rfl, by simpa using hA.own, fun g hg => ?_, ((Below.refl _ w).alloc (Nat.le_refl _) _).grown hA.grown (by simp) (fun k hk => by simp [Value.ownBlock] at hk; omega)⟩
      rcases hA.block g hg with h | h
      · simp [Value.ownBlock] at h; omega
      · simp at h; omega
    have hmx : 0 + l.length ≤ maxLen := by unfold maxLen; omega
    have hone := bytesV_one l
    generalize RetBytes w l = R at *
    generalize bytesV l = xs at *
    generalize l.length = n at *
    have hsn := fun (w : World) => Lib.run_eql_slice_nil (P := Try.prog) w 36 5 (some ad) n c 0 0 bytesT.und
    clear hS hc
    go_enter Try.func64, Try.ntmps64
    go_wp2_with (at_builtin; refine wpList_append_src rfl _ _ 36 36 rfl bytesT bytesT _ 0 [] rfl hown _ n xs rfl hS2 hone hmx (by omega) ?_)
    intro v' w' hA
    have hR := HE.out v' w' hA
    go_wp2
    exact hR

set_option maxRecDepth 100000 in
set_option maxHeartbeats 1000000 in
theorem oct_read (w : World) (y : Value) (l : List UInt8) (h : Src w 1 y l.length (bytesV l)) (hl : l.length < 1000000000000) :
    Calls Try.prog 39 #[y] w fun e w' => ∃ b g, e = .returned (.pointer (some ⟨b, 0, none⟩)) ∧ OctRep w' b g l 0 ∧ Below w.heap.size w w' ∧ w.heap.size ≤ b ∧ w.heap.size ≤ g ∧ b < w'.heap.size ∧ g < w'.heap.size := by
  have HC : Hid (Calls Try.prog 64 #[y] w fun e w' => ∃ a c g, e = .returned (.slice a l.length c) ∧ OctRep (w'.alloc (.cells #[.slice a l.length c, .int .i64 0, .bool true] 104)) w'.heap.size g l 0 ∧ Below w.heap.size w (w'.alloc (.cells #[.slice a l.length c, .int .i64 0, .bool true] 104)) ∧ w.heap.size ≤ w'.heap.size ∧ w.heap.size ≤ g ∧ g ≤ w'.heap.size) := (cloneB_any w y l h hl).mono fun e w' ⟨v, he, ho, hf, hb⟩ => by
    have hlt := ho.lt
    have hcap : ∃ a c g, v = .slice a l.length c ∧ l.length ≤ c ∧ (∀ k, v.ownBlock = some k → k = g) ∧ w.heap.size ≤ g ∧ g ≤ w'.heap.size := by
      rcases ho.2 with ⟨rfl, h0⟩ | ⟨g, c, cur, rfl, _, h1, _⟩
      · exact ⟨none, 0, w'.heap.size, by rw [h0], by omega, by simp [Value.ownBlock], hb.size, Nat.le_refl _⟩
      · exact ⟨_, c, g, rfl, h1, fun k hk => by simp [Value.ownBlock] at hk; exact hk.symm, hf g rfl, Nat.le_of_lt (hlt g rfl)⟩
    obtain ⟨a, c, g, rfl, hlc, hdat, hg1, hg2⟩ := hcap
    refine ⟨a, c, g, he, ⟨a, c, heap_alloc_new w' _, ho.src.below ((Below.refl _ w').alloc (Nat.le_refl _) _), hlc, fun e => ?_, hdat⟩, hb.alloc hb.size _, hb.size, hg1, hg2⟩
    have := hlt _ e
    omega
  obtain ⟨_, a0, c0, rfl, _⟩ := h
  generalize l.length = n at *
  go_enter Try.func39, Try.ntmps39
  go_wp2_with (go_at_call 64; refine HC.out.mono ?_; rintro e w1 ⟨a, c, g, rfl, hO, hb, hz, hg1, hg2⟩)
  go_ret
  exact ⟨_, g, rfl, hO, hb, hz, hg1, by simp, by simp; omega⟩

/-- What take returns: the bytes, as a source; or none, and the error. -/
def RetTake (w : World) (b g : Nat) (l : List UInt8) (n : Nat) (en : Ending) (w' : World) : Prop :=
  (∃ a m c, en = .returned (.slice a m c)) ∧ (∀ v, en = .returned v → if l.length < n then v = .slice none 0 0 else Src w' 1 v (l.take n).length (bytesV (l.take n))) ∧ Fr (fun k => k = b) w w' ∧
  if l.length < n then OctRep w' b g [] 3 else OctRep w' b g (l.drop n) 0

theorem bytesV_take (l : List UInt8) (n : Nat) : (bytesV l).take (n * 1) = bytesV (l.take n) := by rw [Nat.mul_one]; unfold bytesV; rw [List.map_take]
theorem bytesV_drop (l : List UInt8) (n : Nat) : (bytesV l).drop (n * 1) = bytesV (l.drop n) := by rw [Nat.mul_one]; unfold bytesV; rw [List.map_drop]

set_option maxRecDepth 100000 in
set_option maxHeartbeats 1000000 in
theorem oct_take (w : World) (b g : Nat) (l : List UInt8) (n : Nat) (h : OctRep w b g l 0) :
    Calls Try.prog 68 #[.pointer (some ⟨b, 0, none⟩), .int .i64 n] w (RetTake w b g l n) := by
  have HO := Lib.hid (oct_ok w b g l 0 h)
  have HF := Lib.hid (oct_fail w b g l 3 h)
  obtain ⟨a, c, hA⟩ := h
  obtain ⟨h0, h1, _, hf0, _⟩ := hA.cells
  by_cases hlt : l.length < n
  · have hd : decide ((l.length : Int) < (n : Int)) = true := by simp; omega
    have HF2 : Hid (Calls Try.prog 67 #[.pointer (some ⟨b, 0, none⟩), .int .i64 3] w fun e w' => e = .returned (.tuple #[]) ∧ RetTake w b g l n (.returned (.slice none 0 0)) w') := HF.out.mono fun e w' ⟨he, h1, h2⟩ => by
      refine ⟨he, ⟨_, _, _, rfl⟩, fun v hv => by rw [if_pos hlt]; cases hv; rfl, h2, ?_⟩
      rw [if_pos hlt]; exact h1
    generalize RetTake w b g l n = R at *
    generalize l.length = m at *
    clear hA HF
    go_enter Try.func68, Try.ntmps68
    go_wp2_with (first | (go_at_call 65; refine HO.out.mono ?_; rintro e w' ⟨rfl, rfl⟩) | (go_at_call 67; refine HF2.out.mono ?_; rintro e w' ⟨rfl, hR⟩))
    exact hR
  · have hd : decide ((l.length : Int) < (n : Int)) = false := by simp; omega
    obtain ⟨HB1, _, hs1, _⟩ := run_src_begin bytesT hA.src hA.cap n (by omega)
    obtain ⟨ad', c', HE1, hs2, hc2, hob⟩ := run_src_end bytesT hA.src hA.cap n (by omega)
    rw [bytesV_take] at hs1
    rw [bytesV_drop] at hs2
    have hbh : ∀ k, Value.ownBlock (.slice a l.length c) = some k → k ≠ b := fun k hk e => hA.ne (by rw [hk, e])
    have hset : ∀ {y : Value} {m : Nat} {xs : List Value}, y.ownBlock = Value.ownBlock (.slice a l.length c) → Src w 1 y m xs → Src (w.setCell ⟨b, 0, none⟩ (.slice ad' (l.length - n) c')) 1 y m xs := fun hy hs =>
      hs.to fun x u hx hy2 => by
        rw [World.cell?_of_block (w := w) (Below.heap_setCell _ _ _ _ (hbh _ (by rw [← hy]; exact hy2)))]
        exact hx
    have HE : Hid (RetTake w b g l n (.returned (.slice a n n)) (w.setCell ⟨b, 0, none⟩ (.slice ad' (l.length - n) c'))) := by
      have hd1 : (l.drop n).length = l.length - n := List.length_drop
      have ht1 : (l.take n).length = n := by rw [List.length_take]; omega
      refine ⟨⟨_, _, _, rfl⟩, fun v hv => ?_, (Fr.refl (fun k => k = b) w).setCell ⟨b, 0, none⟩ _ (.inr rfl), ?_⟩
      · cases hv
        rw [if_neg hlt, ht1]
        exact hset (by cases a <;> rfl) hs1
      · rw [if_neg hlt]
        refine ⟨ad', c', ?_, ?_, ?_, ?_, ?_⟩
        · rw [hd1]; exact oct_set0 hA.hd _
        · rw [hd1]; exact hset hob hs2
        · rw [hd1]; exact hc2
        · rw [hd1, hob]; exact hA.ne
        · rw [hd1, hob]; exact hA.dat
    have HB1' := Lib.hid HB1
    have HE1' := Lib.hid HE1
    have hmn : n ≤ l.length := by omega
    generalize RetTake w b g l n = R at *
    generalize l.length = m at *
    clear hA HF HB1 HE1 hs1 hs2 hset hbh hob hlt
    go_enter Try.func68, Try.ntmps68
    go_wp2_with (first | (go_at_call 65; refine HO.out.mono ?_; rintro e w' ⟨rfl, rfl⟩) | (with_reducible refine wpList_value (o := ⟨some 24, _, _, _, _, _⟩) rfl (.slice a n n) w (exec_slice rfl rfl (HB1'.out w)) ?_) | (with_reducible refine wpList_value (o := ⟨some 31, _, _, _, _, _⟩) rfl (.slice ad' (m - n) c') w (exec_slice rfl rfl (HE1'.out w)) ?_))
    exact HE.out
end Go.Proofs.Ytgnnnjabgoadaaa

namespace Go.Proofs.Ytgnnnjabgoadaaa
open Go.RowKit

/-- What group returns: how many bytes a number takes; 0, and the error. -/
def RetGroup (w : World) (b g : Nat) (l : List UInt8) (R : Except Nat Nat) (en : Ending) (w' : World) : Prop := Fr (fun k => k = b) w w' ∧
  match R with
  | .ok k => en = .returned (.int .i64 k) ∧ OctRep w' b g l 0
  | .error x => en = .returned (.int .i64 0) ∧ OctRep w' b g [] x

theorem OctAt.byte {w : World} {b g : Nat} {l : List UInt8} {e : Int} {a : Option Addr} {c : Nat} (h : OctAt w b g l e a c) (k : Nat) (x : UInt8) (hk : l[k]? = some x) : ∃ ad, a = some ad ∧ w.cell? (ad.add k) = some (.int .u8 x.toNat) := by
  obtain ⟨_, a', c', e1, hc⟩ := h.src
  cases e1
  exact hc k _ (by simp [bytesV, hk])

set_option maxRecDepth 100000 in
set_option maxHeartbeats 2000000 in
theorem oct_group (w : World) (b g : Nat) (l : List UInt8) (h : OctRep w b g l 0) (hl : l.length < 1000000000000) :
    Calls Try.prog 66 #[.pointer (some ⟨b, 0, none⟩)] w (RetGroup w b g l (groupL 0 l)) := by
  have HF : ∀ x : Nat, Hid (groupL 0 l = .error x → Calls Try.prog 67 #[.pointer (some ⟨b, 0, none⟩), .int .i64 x] w fun e w' => e = .returned (.tuple #[]) ∧ RetGroup w b g l (groupL 0 l) (.returned (.int .i64 0)) w') := fun x hx => (oct_fail w b g l x h).mono fun e w' ⟨he, h1, h2⟩ => by
    rw [hx]; exact ⟨he, h2, rfl, h1⟩
  have HF3 : Hid (groupL 0 l = .error 3 → Calls Try.prog 67 #[.pointer (some ⟨b, 0, none⟩), .int .i64 3] w fun e w' => e = .returned (.tuple #[]) ∧ RetGroup w b g l (groupL 0 l) (.returned (.int .i64 0)) w') := HF 3
  have HF4 : Hid (groupL 0 l = .error 4 → Calls Try.prog 67 #[.pointer (some ⟨b, 0, none⟩), .int .i64 4] w fun e w' => e = .returned (.tuple #[]) ∧ RetGroup w b g l (groupL 0 l) (.returned (.int .i64 0)) w') := HF 4
  have HE : Hid (∀ k : Nat, groupL 0 l = .ok k → RetGroup w b g l (groupL 0 l) (.returned (.int .i64 k)) w) := fun k hk => by
    rw [hk]; exact ⟨Fr.refl _ _, rfl, h⟩
  obtain ⟨a, c, hA⟩ := h
  obtain ⟨h0, _⟩ := hA.cells
  have HB := Lib.hid hA.byte
  have hstep : ∀ (k : Nat) (x : UInt8), l[k]? = some x → groupL k (l.drop k) = if k = 9 then .error 4 else if 128 ≤ x.toNat then groupL (k + 1) (l.drop (k + 1)) else if x.toNat = 0 ∧ 0 < k then .error 4 else .ok (k + 1) := fun k x hk => groupL_step k hk
  have HST := Lib.hid hstep
  have hend : ∀ k, l.length ≤ k → groupL k (l.drop k) = .error 3 := fun k hk => by rw [List.drop_of_length_le hk]; rfl
  have HEND := Lib.hid hend
  have hget : ∀ k, k < l.length → ∃ x, l[k]? = some x := fun k hk => ⟨_, List.getElem?_eq_getElem hk⟩
  have HGET := Lib.hid hget
  have H0 : Hid (groupL 0 l = groupL 0 (l.drop 0)) := rfl
  clear HF hstep hend hget hA
  generalize RetGroup w b g l (groupL 0 l) = R at *
  generalize groupL 0 l = G at *
  generalize hn : l.length = n at *
  clear hn
  go_enter Try.func66, Try.ntmps66
  go_wp2_with fail
  go_loop [4, 5, 13] (fun _ _ i => ∃ k : Nat, i = .int .i64 k ∧ k ≤ n ∧ k ≤ 9 ∧ G = groupL k (l.drop k)) (fun _ _ i => n - (intOf i).toNat)
  case atStart => exact ⟨0, rfl, by omega, by omega, H0.out⟩
  case round =>
    obtain ⟨k, rfl, hk, hk9, hG⟩ := hrel
    have HG := Lib.hid hG
    clear hG H0
    by_cases hlt : k < n
    · obtain ⟨x, hx⟩ := HGET.out k hlt
      obtain ⟨ad, rfl, hcx⟩ := HB.out k x hx
      have hg := HG.out
      rw [HST.out k x hx] at hg
      have hxl := x.toNat_lt
      clear hx
      generalize x.toNat = y at *
      by_cases h9 : k = 9
      · rw [if_pos h9] at hg
        have hk9b : (((k : Nat) : Int) == 9) = true := by rw [beq_iff_eq]; omega
        have HC := Lib.hid (HF4.out hg)
        clear hg h9
        go_wp2_with (go_at_call 67; refine Calls.mono HC.out ?_; rintro e w' ⟨rfl, hR⟩)
        exact hR
      · rw [if_neg h9] at hg
        have hk9b : (((k : Nat) : Int) == 9) = false := by rw [beq_eq_false_iff_ne]; omega
        by_cases h128 : 128 ≤ y
        · rw [if_pos h128] at hg
          have HG2 := Lib.hid hg
          have hk8 : k + 1 ≤ 9 := by omega
          have hd : decide ((128 : Int) ≤ (y : Int)) = true := decide_eq_true (by omega)
          clear hg h9
          go_wp2_with fail
          go_round
          case rel => exact ⟨k + 1, by go_num, by omega, hk8, HG2.out⟩
          case measure => simp [intOf]; omega
        · rw [if_neg h128] at hg
          have hd : decide ((128 : Int) ≤ (y : Int)) = false := decide_eq_false (by omega)
          by_cases hz : y = 0 ∧ 0 < k
          · rw [if_pos hz] at hg
            have HC := Lib.hid (HF4.out hg)
            obtain ⟨rfl, hk0⟩ := hz
            have hd2 : decide ((0 : Int) < (k : Int)) = true := by simp; omega
            clear hg h9
            go_wp2_with (go_at_call 67; refine Calls.mono HC.out ?_; rintro e w' ⟨rfl, hR⟩)
            exact hR
          · rw [if_neg hz] at hg
            have hR1 : R (.returned (.int .i64 ((k : Int) + 1))) w := HE.out (k + 1) hg
            have HR := Lib.hid hR1
            clear hR1
            by_cases hy : y = 0
            · have hd2 : decide ((0 : Int) < (k : Int)) = false := by simp; omega
              have hd3 : ¬ 0 < k := by omega
              subst hy
              clear hg h9 hz
              go_wp2_with fail
              exact HR.out
            · have hyb : (((y : Nat) : Int) == 0) = false := by rw [beq_eq_false_iff_ne]; omega
              clear hg h9 hz hy
              go_wp2_with fail
              exact HR.out
    · have hg := HG.out
      rw [HEND.out k (by omega)] at hg
      have HC := Lib.hid (HF3.out hg)
      clear hg
      go_wp2_with (go_at_call 67; refine Calls.mono HC.out ?_; rintro e w' ⟨rfl, hR⟩)
      exact hR
end Go.Proofs.Ytgnnnjabgoadaaa

namespace Go.Proofs.Ytgnnnjabgoadaaa
open Go.RowKit

/-- What Var returns: the number, and what is left; 0, and the error. -/
def RetVar (w : World) (b g : Nat) (R : Except Nat (Nat × List UInt8)) (en : Ending) (w' : World) : Prop := Fr (fun k => k = b) w w' ∧
  match R with
  | .ok (n, r) => en = .returned (.int .i64 n) ∧ OctRep w' b g r 0
  | .error x => en = .returned (.int .i64 0) ∧ OctRep w' b g [] x

set_option maxRecDepth 100000 in
theorem and127 (x : Nat) (hx : x < 256) : bits BinOp.and IntKind.u8 (x : Int) 127 = ((x % 128 : Nat) : Int) := by
  have : ∀ y : Fin 256, bits BinOp.and IntKind.u8 ((y.val : Nat) : Int) 127 = ((y.val % 128 : Nat) : Int) := by decide
  exact this ⟨x, hx⟩

theorem pow7 (j : Nat) : 128 ^ j = 2 ^ (7 * j) := by rw [Nat.pow_mul]

/-- One group more. -/
theorem or_group (x y j : Nat) (hx : x < 128 ^ j) (hy : y < 128) (hj : j < 9) : bits BinOp.or IntKind.i64 (x : Int) ((y * 128 ^ j : Nat) : Int) = ((x + y * 128 ^ j : Nat) : Int) := by
  have h9 : 128 ^ j * 128 ≤ 9223372036854775808 := by
    have : (128 : Nat) ^ (j + 1) ≤ 128 ^ 9 := Nat.pow_le_pow_right (by omega) (by omega)
    rw [Nat.pow_succ] at this
    have e : (128 : Nat) ^ 9 = 9223372036854775808 := by decide
    omega
  have hyj : y * 128 ^ j + 128 ^ j ≤ 128 ^ j * 128 := by
    have := Nat.mul_le_mul_right (128 ^ j) (show y + 1 ≤ 128 by omega)
    rw [Nat.add_mul, Nat.one_mul] at this
    rw [Nat.mul_comm (128 ^ j) 128]
    exact this
  have hor : x ||| y * 128 ^ j = x + y * 128 ^ j := by
    rw [pow7] at hx ⊢
    have := Nat.two_pow_add_eq_or_of_lt (i := 7 * j) hx y
    rw [Nat.mul_comm y, Nat.add_comm, this, Nat.or_comm]
  have ho : ∀ a : Nat, a < 9223372036854775808 → (BitVec.ofInt 64 (a : Int)).toNat = a := fun a ha => by
    rw [BitVec.ofInt_natCast, BitVec.toNat_ofNat]; exact Nat.mod_eq_of_lt (by omega)
  show IntKind.i64.wrap ((BitVec.ofInt 64 (x : Int) ||| BitVec.ofInt 64 ((y * 128 ^ j : Nat) : Int)).toNat : Int) = _
  rw [BitVec.toNat_or, ho x (by omega), ho _ (by omega), hor, IntKind.wrap_i64]
  omega

theorem or_group2 (x y j : Nat) (hx : x < 128 ^ j) (hj : j < 9) : bits BinOp.or IntKind.i64 (x : Int) (wrap64 ((y : Int) % 128 * 2 ^ (7 * j))) = ((x + y % 128 * 128 ^ j : Nat) : Int) := by
  have e : ((y : Int) % 128 * 2 ^ (7 * j)) = ((y % 128 * 128 ^ j : Nat) : Int) := by
    rw [pow7]; simp
  have h9 : 128 ^ j * 128 ≤ 9223372036854775808 := by
    have : (128 : Nat) ^ (j + 1) ≤ 128 ^ 9 := Nat.pow_le_pow_right (by omega) (by omega)
    rw [Nat.pow_succ] at this
    have e : (128 : Nat) ^ 9 = 9223372036854775808 := by decide
    omega
  have hyj : y % 128 * 128 ^ j + 128 ^ j ≤ 128 ^ j * 128 := by
    have := Nat.mul_le_mul_right (128 ^ j) (show y % 128 + 1 ≤ 128 by omega)
    rw [Nat.add_mul, Nat.one_mul] at this
    rw [Nat.mul_comm (128 ^ j) 128]
    exact this
  have hp : 0 < 128 ^ j := Nat.pow_pos (by omega)
  have hw : wrap64 ((y % 128 * 128 ^ j : Nat) : Int) = ((y % 128 * 128 ^ j : Nat) : Int) := by
    unfold wrap64; omega
  rw [e, hw, or_group x (y % 128) j hx (by omega) hj]

set_option maxRecDepth 100000 in
set_option maxHeartbeats 2000000 in
theorem oct_var (w : World) (b g : Nat) (l : List UInt8) (most : Nat) (h : OctRep w b g l 0) (hl : l.length < 1000000000000) :
    Calls Try.prog 40 #[.pointer (some ⟨b, 0, none⟩), .int .i64 most] w (RetVar w b g (varL l most)) := by
  have HO := Lib.hid (oct_ok w b g l 0 h)
  have hGr := oct_group w b g l h hl
  cases hg : groupL 0 l with
  | error x =>
    have HG : Hid (Calls Try.prog 66 #[.pointer (some ⟨b, 0, none⟩)] w fun e w' => e = .returned (.int .i64 0) ∧ RetVar w b g (varL l most) (.returned (.int .i64 0)) w') := hGr.mono fun e w' hr => by
      rw [hg] at hr
      unfold varL
      rw [hg]
      exact ⟨hr.2.1, hr.1, rfl, hr.2.2⟩
    generalize RetVar w b g (varL l most) = R at *
    clear hGr hg h
    go_enter Try.func40, Try.ntmps40
    go_wp2_with (first | (go_at_call 65; refine HO.out.mono ?_; rintro e w' ⟨rfl, rfl⟩) | (go_at_call 66; refine Calls.mono HG.out ?_; rintro e w' ⟨rfl, hR⟩))
    exact hR
  | ok k =>
    obtain ⟨hk0, hk9, hkl⟩ := groupL_ok (by omega) hg
    have HG : Hid (Calls Try.prog 66 #[.pointer (some ⟨b, 0, none⟩)] w fun e w' => e = .returned (.int .i64 k) ∧ Fr (fun k => k = b) w w' ∧ OctRep w' b g l 0) := hGr.mono fun e w' hr => by
      rw [hg] at hr
      exact ⟨hr.2.1, hr.1, hr.2.2⟩
    have HA : Hid (∀ w1, Fr (fun k => k = b) w w1 → OctRep w1 b g l 0 → ∃ a c, w1.cell? ⟨b, 0, none⟩ = some (.slice a l.length c) ∧ (∀ w2, (Instr.sliceAt 36 (.slice a l.length c) none (some (.int .i64 k)) none).run Try.prog w2 = .ok (.slice a k c) w2) ∧
        (∀ j, j < k → ∃ x : UInt8, l[j]? = some x ∧ ∃ ad, a = some ad ∧ w1.cell? (ad.add j) = some (.int .u8 x.toNat)) ∧
        (varL l most = .error 5 → Calls Try.prog 67 #[.pointer (some ⟨b, 0, none⟩), .int .i64 5] w1 fun e w' => e = .returned (.tuple #[]) ∧ RetVar w b g (varL l most) (.returned (.int .i64 0)) w') ∧
        (varL l most = .ok (valL (l.take k), l.drop k) → Calls Try.prog 68 #[.pointer (some ⟨b, 0, none⟩), .int .i64 k] w1 fun e w' => (∃ v, e = .returned v) ∧ RetVar w b g (varL l most) (.returned (.int .i64 (valL (l.take k) : Nat))) w')) := fun w1 hF1 hO1 => by
      obtain ⟨a, c, hA⟩ := hO1
      refine ⟨a, c, hA.cells.1, (run_src_begin bytesT hA.src hA.cap k (by omega)).2.1, fun j hj => ?_, fun he => ?_, fun he => ?_⟩
      · exact ⟨l[j]'(by omega), List.getElem?_eq_getElem _, hA.byte j _ (List.getElem?_eq_getElem _)⟩
      · rw [he]
        exact (oct_fail w1 b g l 5 ⟨a, c, hA⟩).mono fun e w' ⟨h1, h2, h3⟩ => ⟨h1, hF1.trans h3 (fun _ _ h => h), rfl, h2⟩
      · rw [he]
        refine (oct_take w1 b g l k ⟨a, c, hA⟩).mono fun e w' ⟨⟨a', m', c', h1⟩, _, h3, h4⟩ => ⟨⟨_, h1⟩, hF1.trans h3 (fun _ _ h => h), rfl, ?_⟩
        rw [if_neg (by omega)] at h4
        exact h4
    have HV : Hid (varL l most = if most < valL (l.take k) then .error 5 else .ok (valL (l.take k), l.drop k)) := by show _ = _; unfold varL; rw [hg]
    have HST : Hid (∀ j x, l[j]? = some x → j < 9 → valL (l.take (j + 1)) = valL (l.take j) + x.toNat % 128 * 128 ^ j ∧ valL (l.take j) < 128 ^ j) := fun j x hj _ => ⟨valL_step hj, valL_small l j⟩
    have hkb : (((k : Nat) : Int) == 0) = false := by rw [beq_eq_false_iff_ne]; omega
    clear hGr hg h hkl
    generalize varL l most = V at *
    generalize RetVar w b g V = R at *
    go_enter Try.func40, Try.ntmps40
    go_wp2_with fail
    refine HO.out.mono ?_
    rintro e w' ⟨rfl, rfl⟩
    go_wp2_with fail
    refine Calls.mono HG.out ?_
    rintro e w1 ⟨rfl, hF1, hO1⟩
    obtain ⟨a, c, hc, hsl, hby, hfail, htake⟩ := HA.out w1 hF1 hO1
    have HSL := Lib.hid hsl
    have HBY := Lib.hid hby
    have HFAIL := Lib.hid hfail
    have HTAKE := Lib.hid htake
    clear hsl hby hfail htake hF1 hO1
    generalize l.length = n at *
    go_wp2_with (with_reducible refine wpList_value (o := ⟨some 21, _, _, _, _, _⟩) rfl (.slice a k c) w1 (exec_slice rfl rfl (HSL.out w1)) ?_)
    go_loop [6, 7, 8, 23] (fun v _ _ i => ∃ j : Nat, i = .int .i64 j ∧ j ≤ k ∧ v = .int .i64 (valL (l.take j) : Nat)) (fun _ _ _ i => k - (intOf i).toNat)
    case atStart => exact ⟨0, rfl, by omega, rfl⟩
    case round =>
      obtain ⟨j, rfl, hj, rfl⟩ := hrel
      by_cases hlt : j < k
      · obtain ⟨x, hx, ad, rfl, hcx⟩ := HBY.out j hlt
        obtain ⟨hs1, hs2⟩ := HST.out j x hx (by omega)
        have HS1 := Lib.hid hs1
        have hx2 := x.toNat_lt
        have hand := and127 x.toNat hx2
        clear hs1 hx
        generalize x.toNat = y at *
        generalize valL (l.take j) = v at *
        have HOR := Lib.hid (or_group2 v y j hs2 (by omega))
        go_wp2_with fail
        exact ⟨⟨j + 1, by go_num, by omega, by rw [HOR.out, HS1.out]⟩, by simp [intOf]; omega⟩
      · obtain rfl : j = k := by omega
        have hsm : valL (l.take j) < 9223372036854775808 := by
          have h1 := valL_small l j
          have h2 : (128 : Nat) ^ j ≤ 128 ^ 9 := Nat.pow_le_pow_right (by omega) (by omega)
          have e : (128 : Nat) ^ 9 = 9223372036854775808 := by decide
          omega
        generalize hv : valL (l.take j) = v at *
        by_cases hgt : most < v
        · have hV := HV.out
          rw [if_pos hgt] at hV
          have HC := Lib.hid (HFAIL.out hV)
          have hd : decide ((most : Int) < (v : Int)) = true := decide_eq_true (by omega)
          clear hV hv
          go_wp2_with (go_at_call 67; refine Calls.mono HC.out ?_; rintro e w' ⟨rfl, hR⟩)
          exact hR
        · have hV := HV.out
          rw [if_neg hgt] at hV
          have HC := Lib.hid (HTAKE.out hV)
          have hd : decide ((most : Int) < (v : Int)) = false := decide_eq_false (by omega)
          clear hV hv
          go_wp2_with (go_at_call 68; refine Calls.mono HC.out ?_; rintro e w' ⟨⟨q, rfl⟩, hR⟩)
          exact hR
end Go.Proofs.Ytgnnnjabgoadaaa

namespace Go.Proofs.Ytgnnnjabgoadaaa
open Go.RowKit

theorem run_conv_nil (w : World) (c : Nat) : (convert 36 9 (.slice none 0 c)).run Try.prog w = .ok (.string ⟨#[]⟩) w := by
  rw [run_convert_bytes_string _ _ _ 5 _ _ _ (by kernel_rfl) (by kernel_rfl) (by kernel_rfl)]
  rfl

theorem run_conv_any {w : World} {v : Value} {l : List UInt8} (h : Own w 5 1 v l.length (bytesV l)) : (convert 36 9 v).run Try.prog w = .ok (.string ⟨l.toArray⟩) w := by
  have h' := h
  rcases h.2 with ⟨rfl, h0⟩ | ⟨g, c, cur, rfl, _⟩
  · have : l = [] := List.eq_nil_of_length_eq_zero h0
    subst this
    exact run_conv_nil w 0
  · exact run_conv_own h'

/-- The bytes, made a text: what Text's caller asks for. -/
def RetText (w : World) (b g : Nat) (R : Except Nat (List UInt8 × List UInt8)) (en : Ending) (w' : World) : Prop := Fr (fun k => k = b) w w' ∧ ∃ a m c, en = .returned (.slice a m c) ∧
  match R with
  | .ok (x, r) => (convert 36 9 (.slice a m c)).run Try.prog w' = .ok (.string ⟨x.toArray⟩) w' ∧ OctRep w' b g r 0
  | .error y => (convert 36 9 (.slice a m c)).run Try.prog w' = .ok (.string ⟨#[]⟩) w' ∧ OctRep w' b g [] y

theorem groupL_err : ∀ {l : List UInt8} {i x : Nat}, groupL i l = .error x → x = 3 ∨ x = 4
  | [], _, _, h => by simp [groupL] at h; exact .inl h.symm
  | c :: r, i, x, h => by
    rw [groupL] at h
    split at h
    · cases h; exact .inr rfl
    · split at h
      · exact groupL_err h
      · split at h
        · cases h; exact .inr rfl
        · cases h
theorem varL_err {l : List UInt8} {most x : Nat} (h : varL l most = .error x) : x = 3 ∨ x = 4 ∨ x = 5 := by
  unfold varL at h
  split at h
  · rename_i e he
    cases h
    rcases groupL_err he with h | h
    · exact .inl h
    · exact .inr (.inl h)
  · split at h
    · cases h; exact .inr (.inr rfl)
    · cases h
theorem textL_err {l : List UInt8} {most x : Nat} (h : textL l most = .error x) : x = 3 ∨ x = 4 ∨ x = 5 := by
  unfold textL at h
  split at h
  · rename_i e he
    cases h
    exact varL_err he
  · split at h
    · cases h; exact .inl rfl
    · cases h

set_option maxRecDepth 100000 in
set_option maxHeartbeats 2000000 in
theorem oct_text (w : World) (b g : Nat) (l : List UInt8) (most : Nat) (h : OctRep w b g l 0) (hl : l.length < 1000000000000) :
    Calls Try.prog 41 #[.pointer (some ⟨b, 0, none⟩), .int .i64 most] w (RetText w b g (textL l most)) := by
  have hV := oct_var w b g l most h hl
  cases hv : varL l most with
  | error x =>
    have ht : textL l most = .error x := by unfold textL; rw [hv]
    rw [ht]
    have hx : ((x : Int) == 0) = false := by rw [beq_eq_false_iff_ne]; rcases varL_err hv with h | h | h <;> omega
    have HV : Hid (Calls Try.prog 40 #[.pointer (some ⟨b, 0, none⟩), .int .i64 most] w fun e w' => e = .returned (.int .i64 0) ∧ (Calls Try.prog 65 #[.pointer (some ⟨b, 0, none⟩)] w' fun e w2 => e = .returned (.bool false) ∧ w' = w2) ∧ RetText w b g (.error x) (.returned (.slice none 0 0)) w') := hV.mono fun e w' hr => by
      rw [hv] at hr
      have hok := oct_ok w' b g [] x hr.2.2
      rw [hx] at hok
      exact ⟨hr.2.1, hok, hr.1, none, 0, 0, rfl, run_conv_nil w' 0, hr.2.2⟩
    generalize RetText w b g (.error x) = R at *
    clear hV hv ht hx h
    go_enter Try.func41, Try.ntmps41
    go_wp2_with (first | (go_at_call 40; refine Calls.mono HV.out ?_; rintro e w1 ⟨rfl, hok, hR⟩) | (go_at_call 65; refine hok.mono ?_; rintro e w' ⟨rfl, rfl⟩))
    exact hR
  | ok p =>
    obtain ⟨n, r⟩ := p
    have hr2 := (varL_len hv).1
    have HV : Hid (Calls Try.prog 40 #[.pointer (some ⟨b, 0, none⟩), .int .i64 most] w fun e w' => e = .returned (.int .i64 n) ∧ (Calls Try.prog 65 #[.pointer (some ⟨b, 0, none⟩)] w' fun e w2 => e = .returned (.bool true) ∧ w' = w2) ∧
        (Calls Try.prog 68 #[.pointer (some ⟨b, 0, none⟩), .int .i64 n] w' fun e w2 => ∃ a m c, e = .returned (.slice a m c) ∧ Calls Try.prog 64 #[.slice a m c] w2 fun e w3 => ∃ a' m' c', e = .returned (.slice a' m' c') ∧ RetText w b g (textL l most) (.returned (.slice a' m' c')) w3)) := hV.mono fun e w' hr => by
      rw [hv] at hr
      obtain ⟨hF, he, hO⟩ := hr
      have hok := oct_ok w' b g r 0 hO
      refine ⟨he, hok, (oct_take w' b g r n hO).mono fun e w2 ⟨⟨a, m, c, h1⟩, h2, h3, h4⟩ => ⟨a, m, c, h1, ?_⟩⟩
      by_cases hlt : r.length < n
      · have ht : textL l most = .error 3 := by unfold textL; rw [hv]; simp only; rw [if_pos hlt]
        rw [if_pos hlt] at h4
        rw [ht]
        have he2 := h2 _ h1
        rw [if_pos hlt] at he2
        rw [he2]
        refine (cloneB_any w2 _ [] ⟨rfl, none, 0, rfl, fun j u hj => by cases hj⟩ (by simp)).mono fun e w3 ⟨v, h6, h7, h8, h9⟩ => ?_
        have hcv := run_conv_any h7
        obtain ⟨_, a', c', rfl, _⟩ := h7.src
        exact ⟨a', _, c', h6, (hF.trans h3 (fun _ _ h => h)).trans (Fr.of_below h9 (fun _ => False)) (fun _ _ h => h.elim), a', _, c', rfl, hcv, h4.below h9⟩
      · have ht : textL l most = .ok (r.take n, r.drop n) := by unfold textL; rw [hv]; simp only; rw [if_neg hlt]
        rw [if_neg hlt] at h4
        rw [ht]
        have h5 := h2 _ h1
        rw [if_neg hlt] at h5
        refine (cloneB_any w2 _ (r.take n) h5 (by rw [List.length_take]; omega)).mono fun e w3 ⟨v, h6, h7, h8, h9⟩ => ?_
        have hcv := run_conv_any h7
        obtain ⟨_, a', c', rfl, _⟩ := h7.src
        exact ⟨a', _, c', h6, (hF.trans h3 (fun _ _ h => h)).trans (Fr.of_below h9 (fun _ => False)) (fun _ _ h => h.elim), a', _, c', rfl, hcv, h4.below h9⟩
    generalize RetText w b g (textL l most) = R at *
    clear hV hv h
    go_enter Try.func41, Try.ntmps41
    go_wp2_with (first | (go_at_call 40; refine Calls.mono HV.out ?_; rintro e w1 ⟨rfl, hok, hT⟩) | (go_at_call 65; refine hok.mono ?_; rintro e w' ⟨rfl, rfl⟩) | (go_at_call 68; refine Calls.mono hT ?_; rintro e w2 ⟨a, m, c, rfl, hC⟩) | (go_at_call 64; refine Calls.mono hC ?_; rintro e w3 ⟨a', m', c', rfl, hR⟩))
    exact hR

def endE (l : List UInt8) (e : Int) : Int := if e = 0 then (if l = [] then 0 else 4) else e

set_option maxRecDepth 100000 in
set_option maxHeartbeats 2000000 in
/-- Behind a failure a text is none, and nothing turns. -/
theorem oct_text_err (w : World) (b g : Nat) (l : List UInt8) (most : Nat) (e : Int) (he : e ≠ 0) (h : OctRep w b g l e) :
    Calls Try.prog 41 #[.pointer (some ⟨b, 0, none⟩), .int .i64 most] w fun en w' => en = .returned (.slice none 0 0) ∧ w = w' := by
  have HO := oct_ok w b g l e h
  have hb : (e == 0) = false := by simpa using he
  rw [hb] at HO
  have HO := Lib.hid HO
  have HV : Hid (Calls Try.prog 40 #[.pointer (some ⟨b, 0, none⟩), .int .i64 most] w fun en w' => en = .returned (.int .i64 0) ∧ w = w') := by
    clear he h hb
    show Calls _ _ _ _ _
    go_enter Try.func40, Try.ntmps40
    go_wp2_with (go_at_call 65; refine HO.out.mono ?_; rintro e w' ⟨rfl, rfl⟩)
    go_ret
    exact ⟨rfl, rfl⟩
  clear he h hb
  go_enter Try.func41, Try.ntmps41
  go_wp2_with (first | (go_at_call 40; refine Calls.mono HV.out ?_; rintro e w' ⟨rfl, rfl⟩) | (go_at_call 65; refine HO.out.mono ?_; rintro e w' ⟨rfl, rfl⟩))
  go_ret
  exact ⟨rfl, rfl⟩

set_option maxRecDepth 100000 in
set_option maxHeartbeats 2000000 in
theorem oct_end (w : World) (b g : Nat) (l : List UInt8) (e : Int) (h : OctRep w b g l e) :
    Calls Try.prog 43 #[.pointer (some ⟨b, 0, none⟩)] w fun en w' => en = .returned (.int .i64 (endE l e)) ∧ Fr (fun k => k = b) w w' := by
  have HL := Lib.hid (oct_left w b g l e h)
  have HE := Lib.hid (oct_err w b g l e h)
  have HR := Lib.hid (Fr.refl (fun k => k = b) w)
  by_cases he : e = 0
  · subst he
    by_cases hl : l = []
    · subst hl
      have e1 : endE [] 0 = 0 := rfl
      have e2 : (if (0 : Int) = 0 then (([] : List UInt8).length : Int) else 0) = 0 := rfl
      rw [e1]
      rw [e2] at HL
      clear h
      go_enter Try.func43, Try.ntmps43
      go_wp2_with (first | (go_at_call 69; refine HL.out.mono ?_; rintro e w' ⟨rfl, rfl⟩) | (go_at_call 42; refine HE.out.mono ?_; rintro e w' ⟨rfl, rfl⟩))
      go_ret
      exact ⟨rfl, HR.out⟩
    · have e1 : endE l 0 = 4 := by unfold endE; rw [if_pos rfl, if_neg hl]
      have e2 : (if (0 : Int) = 0 then (l.length : Int) else 0) = (l.length : Int) := if_pos rfl
      rw [e1]
      rw [e2] at HL
      have hpos : 0 < l.length := List.length_pos_iff.2 hl
      have HF : Hid (Calls Try.prog 67 #[.pointer (some ⟨b, 0, none⟩), .int .i64 4] w fun e w' => e = .returned (.tuple #[]) ∧ Fr (fun k => k = b) w w' ∧ Calls Try.prog 42 #[.pointer (some ⟨b, 0, none⟩)] w' fun e w2 => e = .returned (.int .i64 4) ∧ w' = w2) := (oct_fail w b g l 4 h).mono fun e w' ⟨h1, h2, h3⟩ => ⟨h1, h3, oct_err w' b g [] 4 h2⟩
      have hd : decide ((0 : Int) < (l.length : Int)) = true := decide_eq_true (by omega)
      generalize l.length = n at *
      clear h HE
      go_enter Try.func43, Try.ntmps43
      go_wp2_with (first | (go_at_call 69; refine HL.out.mono ?_; rintro e w' ⟨rfl, rfl⟩) | (go_at_call 67; refine Calls.mono HF.out ?_; rintro e w' ⟨rfl, hF, hE⟩) | (go_at_call 42; refine hE.mono ?_; rintro e w' ⟨rfl, rfl⟩))
      go_ret
      exact ⟨rfl, hF⟩
  · have e1 : endE l e = e := by unfold endE; rw [if_neg he]
    have e2 : (if e = 0 then (l.length : Int) else 0) = 0 := if_neg he
    rw [e1]
    rw [e2] at HL
    clear h he e1 e2
    go_enter Try.func43, Try.ntmps43
    go_wp2_with (first | (go_at_call 69; refine HL.out.mono ?_; rintro e w' ⟨rfl, rfl⟩) | (go_at_call 42; refine HE.out.mono ?_; rintro e w' ⟨rfl, rfl⟩))
    go_ret
    exact ⟨rfl, HR.out⟩
end Go.Proofs.Ytgnnnjabgoadaaa
