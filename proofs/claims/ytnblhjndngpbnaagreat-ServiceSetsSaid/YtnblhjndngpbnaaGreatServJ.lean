/- What is proved here: the service laws' act, on both stores; what the laws' states keep. Its conditions: numbers below 2^63, at most 30 strategies in a list, sizes. -/
import Derived.Test.YtnblhjndngpbnaaGreatServI
import Derived.Test.YtnblhjndngpbnaaGreatServR
namespace Go.Proofs.YtnblhjndngpbnaaGreat
open Go.RowKit

theorem put_sorted26 {s : St} (h : Sorted s.ents) (k v : ByteArray) : Sorted (s.put k v).ents := by
  unfold St.put St.del St.set
  repeat' split
  all_goals first | exact h | exact putE_sorted h _ _ | exact delE_sorted h _

/-- What the laws' states keep. -/
def SGood (s : St) : Prop := Sorted s.ents ∧ KeysP PK s
theorem SGood.empty : SGood emptySt := ⟨List.Pairwise.nil, KeysP.empty _⟩
theorem key_short (t : Nat) (l : List Int) (h : l.length ≤ 3) : (keyL t l).size ≤ 100 := Nat.le_trans (keyL_short t l) (by omega)
theorem SGood.put {s : St} (h : SGood s) {k : ByteArray} (hk : k.size ≤ 100) (v : ByteArray) : SGood (s.put k v) := ⟨put_sorted26 h.1 _ _, h.2.putK hk _⟩
theorem SGood.setInt {s : St} (h : SGood s) {k : ByteArray} (hk : k.size ≤ 100) (n : Int) : SGood (s.setInt k n) := h.put hk _
theorem SGood.del {s : St} (h : SGood s) (k : ByteArray) : SGood (s.del k) := ⟨St.del_sorted h.1 k, h.2.del k⟩
theorem SGood.putL {a n : Int} : ∀ {l : List Int} {s : St}, SGood s → SGood (putL s a n l)
  | [], _, h => h
  | _ :: l, _, h => SGood.putL (l := l) (h.setInt (key_short 23 _ (by simp)) 1)
theorem SGood.vNew {s : St} (h : SGood s) : SGood (vNew s) := (h.setInt (key_short 5 [] (by simp)) _).put (key_short 5 _ (by simp)) _

/-- What an act makes of a state. -/
def sAct (s : St) (k a n g : Int) (l : List Int) : St :=
  if k = 0 then (sReg s a).2 else if k = 1 then (sNewL s a l).2 else if k = 2 then (sInc s a n g).2 else if k = 3 then (sExc s a n g).2 else (vNewG s).2

theorem sReg_fit {s : St} {f : Nat} (h : s.Fit f) (a : Int) : (sReg s a).2.Fit (f + 2) := by
  unfold sReg
  repeat' split
  all_goals first | exact h.mono (by omega) | exact h.setInt (keyL 21 [a]) 1
theorem sNewL_fit {s : St} {f : Nat} (h : s.Fit f) (a : Int) (l : List Int) : (sNewL s a l).2.Fit (f + 2 + 2 * l.length) := by
  unfold sNewL
  repeat' split
  all_goals first | exact h.mono (by omega) | exact putL_fit (h.setInt _ _) a _ l
theorem sInc_fit {s : St} {f : Nat} (h : s.Fit f) (a n g : Int) : (sInc s a n g).2.Fit (f + 2) := by
  unfold sInc
  repeat' split
  all_goals first | exact h.mono (by omega) | exact h.setInt (keyL 23 [a, n, g]) 1
theorem vNew_fit26 {s : St} {f : Nat} (h : s.Fit f) : (vNew s).Fit (f + 4) := (h.setInt _ _).put _ (by decide)
theorem vNewG_fit {s : St} {f : Nat} (h : s.Fit f) : (vNewG s).2.Fit (f + 4) := by
  unfold vNewG
  split
  · exact h.mono (by omega)
  · exact vNew_fit26 h
theorem sAct_fit {s : St} {f : Nat} (h : s.Fit f) (k a n g : Int) {l : List Int} (hl : l.length ≤ 30) : (sAct s k a n g l).Fit (f + 64) := by
  unfold sAct
  split
  · exact (sReg_fit h a).mono (by omega)
  · split
    · exact (sNewL_fit h a l).mono (by omega)
    · split
      · exact (sInc_fit h a n g).mono (by omega)
      · split
        · exact (h.del _).mono (by omega)
        · exact (vNewG_fit h).mono (by omega)
theorem SGood.act {s : St} (h : SGood s) (k a n g : Int) (l : List Int) : SGood (sAct s k a n g l) := by
  unfold sAct
  split
  · unfold sReg
    repeat' split
    all_goals first | exact h | exact h.setInt (key_short 21 _ (by simp)) 1
  · split
    · unfold sNewL
      repeat' split
      all_goals first | exact h | exact SGood.putL (h.setInt (key_short 22 _ (by simp)) _)
    · split
      · unfold sInc
        repeat' split
        all_goals first | exact h | exact h.setInt (key_short 23 _ (by simp)) 1
      · split
        · exact h.del _
        · unfold vNewG
          split
          · exact h
          · exact h.vNew

/-- A call on the program's store, whose blocks are known to be new. -/
theorem TwoX.prog3 {w w1 : World} {b m : Nat} {s t s' : St} {X : List (Nat × Obj)} {F : FuncId} {args : Array Value} {v : Value} (h : TwoX w b m s t X w1) (hc : ∀ L, SRep w1 b s L → (∀ k ∈ L, w.heap.size ≤ k) → Calls Tryz.prog F args w1 (RetSt w1 b L v s')) :
    Calls Tryz.prog F args w1 fun e w' => e = .returned v ∧ TwoX w b m s' t X w' := by
  have hlt := h.lt
  obtain ⟨h0, ⟨L, M, h1, h2, h3, h4, h5, hx⟩, hX⟩ := h
  refine (hc L h1 h3).mono fun e w' ⟨he, L', h6, h7⟩ => ⟨he, below_of_step h0 h3 h7, ⟨L', M, h6, h2.fr h7.fr (fun k hk hm => h5 k hm hk), fun k hk => ?_, h4, fun k hk hm => ?_, fun x hxx => ⟨fun hm => ?_, (hx x hxx).2⟩⟩, fun x hxx => ?_⟩
  · rcases h7.own k hk with h8 | h8
    · exact h3 k h8
    · exact Nat.le_trans h0.size h8
  · rcases h7.own k hk with h8 | h8
    · exact h5 k h8 hm
    · have := h2.lt k hm; omega
  · rcases h7.own _ hm with h8 | h8
    · exact (hx x hxx).1 h8
    · have := hlt x hxx; omega
  · exact (h7.fr.block _ (hlt x hxx) (hx x hxx).1).trans (hX x hxx)

/-- A call on the reference's store, whose blocks are known to be new. -/
theorem TwoX.ref3 {w w1 : World} {b m : Nat} {s t t' : St} {X : List (Nat × Obj)} {F : FuncId} {args : Array Value} {v : Value} (h : TwoX w b m s t X w1) (hc : ∀ M, RRep w1 m t M → (∀ k ∈ M, w.heap.size ≤ k) → Calls Tryz.prog F args w1 (RetR w1 m M v t')) :
    Calls Tryz.prog F args w1 fun e w' => e = .returned v ∧ TwoX w b m s t' X w' := by
  have hlt := h.lt
  obtain ⟨h0, ⟨L, M, h1, h2, h3, h4, h5, hx⟩, hX⟩ := h
  refine (hc M h2 h4).mono fun e w' ⟨he, M', h6, h7⟩ => ⟨he, below_of_step h0 h4 h7, ⟨L, M', h1.fr h7.fr (fun k hk hm => h5 k hk hm), h6, h3, fun k hk => ?_, fun k hk hm => ?_, fun x hxx => ⟨(hx x hxx).1, fun hm => ?_⟩⟩, fun x hxx => ?_⟩
  · rcases h7.own k hk with h8 | h8
    · exact h4 k h8
    · exact Nat.le_trans h0.size h8
  · rcases h7.own k hm with h8 | h8
    · exact h5 k hk h8
    · have := h1.lt k hk; omega
  · rcases h7.own _ hm with h8 | h8
    · exact (hx x hxx).2 h8
    · have := hlt x hxx; omega
  · exact (h7.fr.block _ (hlt x hxx) (hx x hxx).2).trans (hX x hxx)

/-- Ints that came in stand, whatever is done to blocks of the walk's own. -/
theorem ints_fr {w w1 w' : World} {L : List Nat} {v : Value} {l : List Int} (hv : IntsAt w v l) (h0 : Below w.heap.size w w1) (hL : ∀ k ∈ L, w.heap.size ≤ k) (hF : Fr (fun k => k ∈ L) w1 w') : IntsAt w' v l :=
  hv.below ⟨hF.os.trans h0.os, hF.tape.trans h0.tape, hF.output.trans h0.output, Nat.le_trans h0.size hF.size, fun k hk => (hF.block k (Nat.lt_of_lt_of_le hk h0.size) (fun hm => by have := hL k hm; omega)).trans (h0.block k hk)⟩

set_option maxRecDepth 100000 in
set_option maxHeartbeats 8000000 in
theorem act26_any {w wr : World} {b m f : Nat} {s : St} {X : List (Nat × Obj)} (h : TwoX w b m s s X wr) (hf : s.Fit f) (hm : f < 100000000) (hg : SGood s) (k a n g : Int) {ad : Option Addr} {c : Nat} {l : List Int} (ha : a < 9223372036854775808) (hn : n < 9223372036854775808) (hgg : g < 9223372036854775808) (hv : IntsAt w (.slice ad l.length c) l) (hl : l.length ≤ 30) (hr : ∀ n ∈ l, n < 9223372036854775808) :
    Calls Tryz.prog 8 #[.pointer (some ⟨b, 0, none⟩), .pointer (some ⟨m, 0, none⟩), .agg #[.int .i64 k, .int .i64 a, .int .i64 n, .int .i64 g, .slice ad l.length c]] wr fun e w' => e = .returned (.bool true) ∧ TwoX w b m (sAct s k a n g l) (sAct s k a n g l) X w' := by
  have hB0 := h.box (.cells #[.int .i64 k, .int .i64 a, .int .i64 n, .int .i64 g, .slice ad l.length c] 34)
  have hd : Below (wr.alloc (.cells #[.int .i64 k, .int .i64 a, .int .i64 n, .int .i64 g, .slice ad l.length c] 34)).heap.size (wr.alloc (.cells #[.int .i64 k, .int .i64 a, .int .i64 n, .int .i64 g, .slice ad l.length c] 34)) (wr.alloc (.cells #[.int .i64 k, .int .i64 a, .int .i64 n, .int .i64 g, .slice ad l.length c] 34)).drew := ⟨rfl, rfl, rfl, Nat.le_refl _, fun _ _ => rfl⟩
  have hB := hB0.below hd
  have hE := hg.2.noE
  have hkey := hg.2.short
  have hk0 := hB0.top 0 (v := .int .i64 k) rfl
  have hk1 := hB0.top 1 (v := .int .i64 a) rfl
  have hk2 := hB0.top 2 (v := .int .i64 n) rfl
  have hk3 := hB0.top 3 (v := .int .i64 g) rfl
  have hk4 := hB0.top 4 (v := .slice ad l.length c) rfl
  clear hd
  by_cases k0 : k = 0
  · have HC : Hid (Calls Tryz.prog 26 #[.pointer (some ⟨b, 0, none⟩), .int .i64 a] (wr.alloc (.cells #[.int .i64 k, .int .i64 a, .int .i64 n, .int .i64 g, .slice ad l.length c] 34)).drew fun e w2 => e = .returned (.int .i64 (sReg s a).1) ∧ (w2.cell? ⟨wr.heap.size, 0, none⟩ = some (.int .i64 k) ∧ w2.cell? ⟨wr.heap.size, 1, none⟩ = some (.int .i64 a) ∧ w2.cell? ⟨wr.heap.size, 2, none⟩ = some (.int .i64 n) ∧ w2.cell? ⟨wr.heap.size, 3, none⟩ = some (.int .i64 g) ∧ w2.cell? ⟨wr.heap.size, 4, none⟩ = some (.slice ad l.length c)) ∧
        Calls Tryz.prog 29 #[.pointer (some ⟨m, 0, none⟩), .int .i64 a] w2 fun e w3 => e = .returned (.int .i64 (sReg s a).1) ∧ (w3.cell? ⟨wr.heap.size, 0, none⟩ = some (.int .i64 k) ∧ w3.cell? ⟨wr.heap.size, 1, none⟩ = some (.int .i64 a) ∧ w3.cell? ⟨wr.heap.size, 2, none⟩ = some (.int .i64 n) ∧ w3.cell? ⟨wr.heap.size, 3, none⟩ = some (.int .i64 g) ∧ w3.cell? ⟨wr.heap.size, 4, none⟩ = some (.slice ad l.length c)) ∧ TwoX w b m (sReg s a).2 (sReg s a).2 X w3) := by
      refine (hB.prog fun L hS => sregG_any _ b s L f a ha hS hf (by omega)).mono fun e w2 ⟨he, h2⟩ => ⟨he, ⟨h2.top 0 rfl, h2.top 1 rfl, h2.top 2 rfl, h2.top 3 rfl, h2.top 4 rfl⟩, ?_⟩
      exact (h2.ref fun M hR => rsregG_any _ m s M f a ha hR hf (by omega)).mono fun e w3 ⟨he, h3⟩ => ⟨he, ⟨h3.top 0 rfl, h3.top 1 rfl, h3.top 2 rfl, h3.top 3 rfl, h3.top 4 rfl⟩, h3.drop⟩
    have HE : Hid (sAct s k a n g l = (sReg s a).2) := by show _ = _; unfold sAct; rw [if_pos k0]
    rw [HE.out]
    generalize (sReg s a).1 = r at *
    generalize (sReg s a).2 = s' at *
    clear hB hf hg hB0 h hE hkey HE hv hr
    have hb0 : (k == 0) = true := beq_iff_eq.2 k0
    clear k0
    generalize l.length = ll at *
    go_enter Tryz.func8, Tryz.ntmps8
    go_wp2_with fail
    generalize wr.heap.size = bx at *
    generalize wr.alloc (.cells #[.int .i64 k, .int .i64 a, .int .i64 n, .int .i64 g, .slice ad ll c] 34) = w1 at *
    go_region_held3 (fun w' => w'.cell? ⟨bx, 0, none⟩ = some (.int .i64 k) ∧ w'.cell? ⟨bx, 1, none⟩ = some (.int .i64 a) ∧ w'.cell? ⟨bx, 2, none⟩ = some (.int .i64 n) ∧ w'.cell? ⟨bx, 3, none⟩ = some (.int .i64 g) ∧ w'.cell? ⟨bx, 4, none⟩ = some (.slice ad ll c)) (go_keep)
      (first
        | (go_at_call 26; refine Calls.mono HC.out ?_; rintro e w2 ⟨rfl, ⟨d0, d1, d2, d3, d4⟩, hD⟩; have HD := Lib.hid hD; clear hD)
        | (go_at_call 29; refine Calls.mono HD.out ?_; rintro e w3 ⟨rfl, ⟨d5, d6, d7, d8, d9⟩, hT⟩))
    go_wp2_with fail
    go_ret
    exact ⟨rfl, hT⟩
  by_cases k1 : k = 1
  · have HC : Hid (Calls Tryz.prog 27 #[.pointer (some ⟨b, 0, none⟩), .int .i64 a, .slice ad l.length c] (wr.alloc (.cells #[.int .i64 k, .int .i64 a, .int .i64 n, .int .i64 g, .slice ad l.length c] 34)) fun e w2 => e = .returned (.tuple #[.int .i64 (sNewL s a l).1.1, .int .i64 (sNewL s a l).1.2]) ∧ (w2.cell? ⟨wr.heap.size, 0, none⟩ = some (.int .i64 k) ∧ w2.cell? ⟨wr.heap.size, 1, none⟩ = some (.int .i64 a) ∧ w2.cell? ⟨wr.heap.size, 2, none⟩ = some (.int .i64 n) ∧ w2.cell? ⟨wr.heap.size, 3, none⟩ = some (.int .i64 g) ∧ w2.cell? ⟨wr.heap.size, 4, none⟩ = some (.slice ad l.length c)) ∧
        Calls Tryz.prog 30 #[.pointer (some ⟨m, 0, none⟩), .int .i64 a, .slice ad l.length c] w2 fun e w3 => e = .returned (.tuple #[.int .i64 (sNewL s a l).1.1, .int .i64 (sNewL s a l).1.2]) ∧ (w3.cell? ⟨wr.heap.size, 0, none⟩ = some (.int .i64 k) ∧ w3.cell? ⟨wr.heap.size, 1, none⟩ = some (.int .i64 a) ∧ w3.cell? ⟨wr.heap.size, 2, none⟩ = some (.int .i64 n) ∧ w3.cell? ⟨wr.heap.size, 3, none⟩ = some (.int .i64 g) ∧ w3.cell? ⟨wr.heap.size, 4, none⟩ = some (.slice ad l.length c)) ∧ TwoX w b m (sNewL s a l).2 (sNewL s a l).2 X w3) := by
      have hb0 := hB0.1
      refine (hB0.prog3 fun L hS hL => snewL_any _ b s L f a _ l ha hS hf (by omega) (fun w' hF => ints_fr hv hb0 hL hF) (by omega) hr).mono fun e w2 ⟨he, h2⟩ => ⟨he, ⟨h2.top 0 rfl, h2.top 1 rfl, h2.top 2 rfl, h2.top 3 rfl, h2.top 4 rfl⟩, ?_⟩
      have hb2 := h2.1
      exact (h2.ref3 fun M hR hM => rsnewL_any _ m s M f a _ l ha hR hf (by omega) (fun w' hF => ints_fr hv hb2 hM hF) (by omega) hr).mono fun e w3 ⟨he, h3⟩ => ⟨he, ⟨h3.top 0 rfl, h3.top 1 rfl, h3.top 2 rfl, h3.top 3 rfl, h3.top 4 rfl⟩, h3.drop⟩
    have HE : Hid (sAct s k a n g l = (sNewL s a l).2) := by show _ = _; unfold sAct; rw [if_neg k0, if_pos k1]
    rw [HE.out]
    generalize (sNewL s a l).1.1 = r1 at *
    generalize (sNewL s a l).1.2 = r2 at *
    generalize (sNewL s a l).2 = s' at *
    have hr1 : (r1 == r1) = true := by simp
    have hr2 : (r2 == r2) = true := by simp
    clear hB hf hg hB0 h hE hkey HE hv hr
    have hb0 : (k == 0) = false := beq_eq_false_iff_ne.2 k0
    have hb1 : (k == 1) = true := beq_iff_eq.2 k1
    clear k0 k1
    generalize l.length = ll at *
    go_enter Tryz.func8, Tryz.ntmps8
    go_wp2_with fail
    refine Calls.mono HC.out ?_
    rintro e w2 ⟨rfl, ⟨d0, d1, d2, d3, d4⟩, hD⟩
    have HD := Lib.hid hD
    clear hD HC
    go_wp2_with fail
    refine Calls.mono HD.out ?_
    rintro e w3 ⟨rfl, ⟨d5, d6, d7, d8, d9⟩, hT⟩
    go_wp2_with fail
    go_ret
    exact ⟨rfl, hT⟩
  by_cases k2 : k = 2
  · have HC : Hid (Calls Tryz.prog 31 #[.pointer (some ⟨b, 0, none⟩), .int .i64 a, .int .i64 n, .int .i64 g] (wr.alloc (.cells #[.int .i64 k, .int .i64 a, .int .i64 n, .int .i64 g, .slice ad l.length c] 34)).drew fun e w2 => e = .returned (.int .i64 (sInc s a n g).1) ∧ (w2.cell? ⟨wr.heap.size, 0, none⟩ = some (.int .i64 k) ∧ w2.cell? ⟨wr.heap.size, 1, none⟩ = some (.int .i64 a) ∧ w2.cell? ⟨wr.heap.size, 2, none⟩ = some (.int .i64 n) ∧ w2.cell? ⟨wr.heap.size, 3, none⟩ = some (.int .i64 g) ∧ w2.cell? ⟨wr.heap.size, 4, none⟩ = some (.slice ad l.length c)) ∧
        Calls Tryz.prog 32 #[.pointer (some ⟨m, 0, none⟩), .int .i64 a, .int .i64 n, .int .i64 g] w2 fun e w3 => e = .returned (.int .i64 (sInc s a n g).1) ∧ (w3.cell? ⟨wr.heap.size, 0, none⟩ = some (.int .i64 k) ∧ w3.cell? ⟨wr.heap.size, 1, none⟩ = some (.int .i64 a) ∧ w3.cell? ⟨wr.heap.size, 2, none⟩ = some (.int .i64 n) ∧ w3.cell? ⟨wr.heap.size, 3, none⟩ = some (.int .i64 g) ∧ w3.cell? ⟨wr.heap.size, 4, none⟩ = some (.slice ad l.length c)) ∧ TwoX w b m (sInc s a n g).2 (sInc s a n g).2 X w3) := by
      refine (hB.prog fun L hS => sinc_any _ b s L f a n g ha hn hgg hS hf (by omega) hkey hE).mono fun e w2 ⟨he, h2⟩ => ⟨he, ⟨h2.top 0 rfl, h2.top 1 rfl, h2.top 2 rfl, h2.top 3 rfl, h2.top 4 rfl⟩, ?_⟩
      exact (h2.ref fun M hR => rsinc_any _ m s M f a n g ha hn hgg hR hf (by omega) hkey hE).mono fun e w3 ⟨he, h3⟩ => ⟨he, ⟨h3.top 0 rfl, h3.top 1 rfl, h3.top 2 rfl, h3.top 3 rfl, h3.top 4 rfl⟩, h3.drop⟩
    have HE : Hid (sAct s k a n g l = (sInc s a n g).2) := by show _ = _; unfold sAct; rw [if_neg k0, if_neg k1, if_pos k2]
    rw [HE.out]
    generalize (sInc s a n g).1 = r at *
    generalize (sInc s a n g).2 = s' at *
    clear hB hf hg hB0 h hE hkey HE hv hr
    have hb0 : (k == 0) = false := beq_eq_false_iff_ne.2 k0
    have hb1 : (k == 1) = false := beq_eq_false_iff_ne.2 k1
    have hb2 : (k == 2) = true := beq_iff_eq.2 k2
    clear k0 k1 k2
    generalize l.length = ll at *
    go_enter Tryz.func8, Tryz.ntmps8
    go_wp2_with fail
    generalize wr.heap.size = bx at *
    generalize wr.alloc (.cells #[.int .i64 k, .int .i64 a, .int .i64 n, .int .i64 g, .slice ad ll c] 34) = w1 at *
    go_region_held3 (fun w' => w'.cell? ⟨bx, 0, none⟩ = some (.int .i64 k) ∧ w'.cell? ⟨bx, 1, none⟩ = some (.int .i64 a) ∧ w'.cell? ⟨bx, 2, none⟩ = some (.int .i64 n) ∧ w'.cell? ⟨bx, 3, none⟩ = some (.int .i64 g) ∧ w'.cell? ⟨bx, 4, none⟩ = some (.slice ad ll c)) (go_keep)
      (first
        | (go_at_call 31; refine Calls.mono HC.out ?_; rintro e w2 ⟨rfl, ⟨d0, d1, d2, d3, d4⟩, hD⟩; have HD := Lib.hid hD; clear hD)
        | (go_at_call 32; refine Calls.mono HD.out ?_; rintro e w3 ⟨rfl, ⟨d5, d6, d7, d8, d9⟩, hT⟩))
    go_wp2_with fail
    go_ret
    exact ⟨rfl, hT⟩
  by_cases k3 : k = 3
  · have HC : Hid (Calls Tryz.prog 28 #[.pointer (some ⟨b, 0, none⟩), .int .i64 a, .int .i64 n, .int .i64 g] (wr.alloc (.cells #[.int .i64 k, .int .i64 a, .int .i64 n, .int .i64 g, .slice ad l.length c] 34)).drew fun e w2 => e = .returned (.int .i64 (sExc s a n g).1) ∧ (w2.cell? ⟨wr.heap.size, 0, none⟩ = some (.int .i64 k) ∧ w2.cell? ⟨wr.heap.size, 1, none⟩ = some (.int .i64 a) ∧ w2.cell? ⟨wr.heap.size, 2, none⟩ = some (.int .i64 n) ∧ w2.cell? ⟨wr.heap.size, 3, none⟩ = some (.int .i64 g) ∧ w2.cell? ⟨wr.heap.size, 4, none⟩ = some (.slice ad l.length c)) ∧
        Calls Tryz.prog 33 #[.pointer (some ⟨m, 0, none⟩), .int .i64 a, .int .i64 n, .int .i64 g] w2 fun e w3 => e = .returned (.int .i64 (sExc s a n g).1) ∧ (w3.cell? ⟨wr.heap.size, 0, none⟩ = some (.int .i64 k) ∧ w3.cell? ⟨wr.heap.size, 1, none⟩ = some (.int .i64 a) ∧ w3.cell? ⟨wr.heap.size, 2, none⟩ = some (.int .i64 n) ∧ w3.cell? ⟨wr.heap.size, 3, none⟩ = some (.int .i64 g) ∧ w3.cell? ⟨wr.heap.size, 4, none⟩ = some (.slice ad l.length c)) ∧ TwoX w b m (sExc s a n g).2 (sExc s a n g).2 X w3) := by
      refine (hB.prog fun L hS => sexc_any _ b s L f a n g ha hn hgg hS hf (by omega)).mono fun e w2 ⟨he, h2⟩ => ⟨he, ⟨h2.top 0 rfl, h2.top 1 rfl, h2.top 2 rfl, h2.top 3 rfl, h2.top 4 rfl⟩, ?_⟩
      exact (h2.ref fun M hR => rsexc_any _ m s M f a n g ha hn hgg hR hf (by omega)).mono fun e w3 ⟨he, h3⟩ => ⟨he, ⟨h3.top 0 rfl, h3.top 1 rfl, h3.top 2 rfl, h3.top 3 rfl, h3.top 4 rfl⟩, h3.drop⟩
    have HE : Hid (sAct s k a n g l = (sExc s a n g).2) := by show _ = _; unfold sAct; rw [if_neg k0, if_neg k1, if_neg k2, if_pos k3]
    rw [HE.out]
    generalize (sExc s a n g).1 = r at *
    generalize (sExc s a n g).2 = s' at *
    clear hB hf hg hB0 h hE hkey HE hv hr
    have hb0 : (k == 0) = false := beq_eq_false_iff_ne.2 k0
    have hb1 : (k == 1) = false := beq_eq_false_iff_ne.2 k1
    have hb2 : (k == 2) = false := beq_eq_false_iff_ne.2 k2
    have hb3 : (k == 3) = true := beq_iff_eq.2 k3
    clear k0 k1 k2 k3
    generalize l.length = ll at *
    go_enter Tryz.func8, Tryz.ntmps8
    go_wp2_with fail
    generalize wr.heap.size = bx at *
    generalize wr.alloc (.cells #[.int .i64 k, .int .i64 a, .int .i64 n, .int .i64 g, .slice ad ll c] 34) = w1 at *
    go_region_held3 (fun w' => w'.cell? ⟨bx, 0, none⟩ = some (.int .i64 k) ∧ w'.cell? ⟨bx, 1, none⟩ = some (.int .i64 a) ∧ w'.cell? ⟨bx, 2, none⟩ = some (.int .i64 n) ∧ w'.cell? ⟨bx, 3, none⟩ = some (.int .i64 g) ∧ w'.cell? ⟨bx, 4, none⟩ = some (.slice ad ll c)) (go_keep)
      (first
        | (go_at_call 28; refine Calls.mono HC.out ?_; rintro e w2 ⟨rfl, ⟨d0, d1, d2, d3, d4⟩, hD⟩; have HD := Lib.hid hD; clear hD)
        | (go_at_call 33; refine Calls.mono HD.out ?_; rintro e w3 ⟨rfl, ⟨d5, d6, d7, d8, d9⟩, hT⟩))
    go_wp2_with fail
    go_ret
    exact ⟨rfl, hT⟩
  have HC : Hid (Calls Tryz.prog 25 #[.pointer (some ⟨b, 0, none⟩), .int .i64 1] (wr.alloc (.cells #[.int .i64 k, .int .i64 a, .int .i64 n, .int .i64 g, .slice ad l.length c] 34)) fun e w2 => e = .returned (.tuple #[.int .i64 (vNewG s).1.1, .int .i64 (vNewG s).1.2]) ∧
      Calls Tryz.prog 34 #[.pointer (some ⟨m, 0, none⟩), .int .i64 1] w2 fun e w3 => e = .returned (.tuple #[.int .i64 (vNewG s).1.1, .int .i64 (vNewG s).1.2]) ∧ TwoX w b m (vNewG s).2 (vNewG s).2 X w3) := by
    refine (hB0.prog fun L hS => vnewG_any _ b s L f hS hf (by omega)).mono fun e w2 ⟨he, h2⟩ => ⟨he, ?_⟩
    exact (h2.ref fun M hR => rvnewG_any _ m s M f hR hf (by omega)).mono fun e w3 ⟨he, h3⟩ => ⟨he, h3.drop⟩
  have HE : Hid (sAct s k a n g l = (vNewG s).2) := by show _ = _; unfold sAct; rw [if_neg k0, if_neg k1, if_neg k2, if_neg k3]
  rw [HE.out]
  generalize (vNewG s).1.1 = r1 at *
  generalize (vNewG s).1.2 = r2 at *
  generalize (vNewG s).2 = s' at *
  have hr1 : (r1 == r1) = true := by simp
  clear hB hf hg hB0 h hE hkey HE hv hr
  have hb0 : (k == 0) = false := beq_eq_false_iff_ne.2 k0
  have hb1 : (k == 1) = false := beq_eq_false_iff_ne.2 k1
  have hb2 : (k == 2) = false := beq_eq_false_iff_ne.2 k2
  have hb3 : (k == 3) = false := beq_eq_false_iff_ne.2 k3
  clear k0 k1 k2 k3
  generalize l.length = ll at *
  go_enter Tryz.func8, Tryz.ntmps8
  go_wp2_with fail
  refine Calls.mono HC.out ?_
  rintro e w2 ⟨rfl, hD⟩
  have HD := Lib.hid hD
  clear hD HC
  go_wp2_with fail
  refine Calls.mono HD.out ?_
  rintro e w3 ⟨rfl, hT⟩
  go_wp2_with fail
  go_ret
  exact ⟨rfl, hT⟩
end Go.Proofs.YtnblhjndngpbnaaGreat
