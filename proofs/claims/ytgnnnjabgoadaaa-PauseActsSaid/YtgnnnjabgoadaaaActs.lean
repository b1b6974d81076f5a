/- What is proved here: the walk of the law PauseActs: it returns true, and changes nothing that was there. -/
import Derived.Test.YtgnnnjabgoadaaaTwo
import Derived.Test.YtgnnnjabgoadaaaPaused
namespace Go.Proofs.Ytgnnnjabgoadaaa
open Go.RowKit

theorem pauseSet_fit {s : St} {m : Nat} (h : s.Fit m) (n : Int) : (pauseSet s n).2.Fit (m + 2) := by
  unfold pauseSet
  split
  · exact h.mono (by omega)
  · exact h.setInt _ _

/-- Where the law's loop stands: both stores in one state. -/
def ActsAt (w : World) (b m k : Nat) (wr : World) : Prop := ∃ s : St, s.Fit (2 * k) ∧ Two w b m s s wr

theorem ActsAt.round {w : World} {b m k : Nat} {wr : World} (h : ActsAt w b m k wr) (hk : k < 1000) (x j : Int) : ∃ (e : Int) (f : Nat) (p : Bool) (P1 P2 P3 P4 P5 : World → Prop),
    (Calls Try.prog 9 #[.pointer (some ⟨b, 0, none⟩), .int .i64 x] wr fun en w' => en = .returned (.int .i64 e) ∧ P1 w') ∧
    (∀ w1, P1 w1 → Calls Try.prog 25 #[.pointer (some ⟨m, 0, none⟩), .int .i64 x] w1 fun en w' => en = .returned (.int .i64 e) ∧ P2 w') ∧
    (∀ w1, P2 w1 → Calls Try.prog 10 #[.pointer (some ⟨b, 0, none⟩)] w1 fun en w' => en = .returned (.int .i64 f) ∧ P3 w') ∧
    (∀ w1, P3 w1 → Calls Try.prog 26 #[.pointer (some ⟨m, 0, none⟩)] w1 fun en w' => en = .returned (.int .i64 f) ∧ P4 w') ∧
    (∀ w1, P4 w1 → Calls Try.prog 11 #[.pointer (some ⟨b, 0, none⟩), .int .i64 j] w1 fun en w' => en = .returned (.bool p) ∧ P5 w') ∧
    (∀ w1, P5 w1 → Calls Try.prog 27 #[.pointer (some ⟨m, 0, none⟩), .int .i64 j] w1 fun en w' => en = .returned (.bool p) ∧ ActsAt w b m (k + 1) w') := by
  obtain ⟨s, hf, hT⟩ := h
  have hb : s.size < 1000000000000 := by have := hf.size; omega
  have hf' := pauseSet_fit hf x
  have hb' : (pauseSet s x).2.size < 1000000000000 := by have := hf'.size; omega
  refine ⟨(pauseSet s x).1, (pauseSet s x).2.int K42, pausedOf j ((pauseSet s x).2.int K42), Two w b m (pauseSet s x).2 s, Two w b m (pauseSet s x).2 (pauseSet s x).2, Two w b m (pauseSet s x).2 (pauseSet s x).2, Two w b m (pauseSet s x).2 (pauseSet s x).2, Two w b m (pauseSet s x).2 (pauseSet s x).2, ?_, fun w1 h1 => ?_, fun w1 h1 => ?_, fun w1 h1 => ?_, fun w1 h1 => ?_, fun w1 h1 => ?_⟩
  · exact hT.prog fun L hS => psetG_any wr b s L x hS hb
  · exact h1.ref fun M hR => rpset_any w1 m s M x hR hb
  · obtain ⟨L, hS⟩ := h1.srep
    exact h1.still (flagsG_any w1 b _ L hS (hf'.val' _))
  · obtain ⟨M, hR⟩ := h1.rrep
    exact h1.still (rflagsG_any w1 m _ M hR (hf'.val' _) hb')
  · obtain ⟨L, hS⟩ := h1.srep
    exact h1.still (pausedG_any w1 b _ L j hS (hf'.val' _))
  · obtain ⟨M, hR⟩ := h1.rrep
    exact (h1.still (rpausedG_any w1 m _ M j hR (hf'.val' _) hb')).mono fun en w' ⟨he, h2⟩ => ⟨he, _, hf'.mono (by omega), h2⟩

theorem ActsAt.done {w : World} {b m k : Nat} {wr : World} (h : ActsAt w b m k wr) (hk : k < 1000) : ∃ n a2 c2, n < 1000000000000 ∧ wr.cell? ⟨m, 0, none⟩ = some (.slice a2 n c2) ∧ wr.drew.cell? ⟨m, 0, none⟩ = some (.slice a2 n c2) ∧
    (Calls Try.prog 19 #[.pointer (some ⟨b, 0, none⟩)] wr.drew fun e w' => ∃ a1 c1, e = .returned (.slice a1 n c1) ∧ w'.cell? ⟨m, 0, none⟩ = some (.slice a2 n c2) ∧
      Calls Try.prog 18 #[.slice a1 n c1, .slice a2 n c2] w' fun e w2 => e = .returned (.bool true) ∧ w2.cell? ⟨m, 0, none⟩ = some (.slice a2 n c2) ∧
        Calls Try.prog 12 #[] w2 fun e w3 => e = .returned (.bool true) ∧ w3.cell? ⟨m, 0, none⟩ = some (.slice a2 n c2) ∧ Below w.heap.size w w3) := by
  obtain ⟨s, hf, hT⟩ := h
  have hb : s.size < 1000000000000 := by have := hf.size; omega
  have hn : s.ents.length < 1000000000000 := by unfold St.size at hb; omega
  obtain ⟨a2, c2, hc, hA⟩ := two_all hT hb
  have hTd := hT.drewN 1
  refine ⟨s.ents.length, a2, c2, hn, hc, hc, ?_⟩
  refine (hA wr.drew hTd hc (two_pairs hTd hc)).mono fun e w' ⟨a1, c1, he, h1, h2, h3, h4⟩ => ⟨a1, c1, he, h2, ?_⟩
  refine (same_any w' a1 a2 c1 c2 s.ents s.ents h3 h4 hn).mono fun e w2 ⟨he, q, hw⟩ => ?_
  subst hw
  refine ⟨by rw [he]; simp, h2, ?_⟩
  have h5 := h1.drewN q
  refine (lives35 (w'.drewN q)).mono fun e w3 ⟨he, hb3⟩ => ⟨he, ?_, (h5.below hb3).1⟩
  rw [hb3.cell (p := ⟨m, 0, none⟩) (World.block_lt_of_cell? (w'.drewN q) _ h2)]; exact h2

set_option maxRecDepth 100000 in
set_option maxHeartbeats 8000000 in
theorem acts_walk (v : Value) (l : List Int) (j : Int) (w : World) (hv : IntsAt w v l) : Calls Try.prog 7 #[v, .int .i64 j] w fun e w' => e = .returned (.bool true) ∧ Below w.heap.size w w' := by
  obtain ⟨ad, c, hve⟩ : ∃ ad c, v = .slice ad l.length c := by
    rcases hv with ⟨rfl, rfl⟩ | ⟨a, c, h1, _⟩
    · exact ⟨none, 0, rfl⟩
    · exact ⟨some a, c, h1⟩
  have HC : Hid (∀ wr k n, Below w.heap.size w wr → l[k]? = some n → ∃ a, ad = some a ∧ wr.cell? (a.add k) = some (.int .i64 n)) := fun wr k n hb hk => by
    rcases hv with ⟨_, rfl⟩ | ⟨a, c', h1, h3⟩
    · simp at hk
    · have : ad = some a := by rw [hve] at h1; cases h1; rfl
      exact ⟨a, this, by rw [hb.cell (p := a.add k) (World.block_lt_of_cell? w _ (h3 k n hk))]; exact h3 k n hk⟩
  subst hve
  have hget : ∀ k, k < l.length → ∃ n, l[k]? = some n := fun k hk => ⟨l[k], List.getElem?_eq_getElem hk⟩
  have HGET := Lib.hid hget
  have HL := Lib.hid (lives35 w)
  have HN := Lib.hid (new_any w)
  have HB : Hid (∀ b m k wr, ActsAt w b m k wr → Below w.heap.size w wr) := fun b m k wr ⟨_, _, h⟩ => h.1
  have HR : Hid (∀ b m k wr, ActsAt w b m k wr → k < 1000 → ∀ x : Int, _) := fun b m k wr h hk x => ActsAt.round h hk x j
  have HD : Hid (∀ b m k wr, ActsAt w b m k wr → k < 1000 → _) := fun b m k wr h hk => ActsAt.done h hk
  clear hget hv
  by_cases h100 : 100 < l.length
  · have hd : decide ((100 : Int) < (l.length : Int)) = true := by simp; omega
    generalize l.length = n at *
    go_enter Try.func7, Try.ntmps7
    go_wp2_with (go_at_call 12; refine HL.out.mono ?_; rintro e w1 ⟨rfl, h1⟩)
    go_ret
    exact ⟨rfl, h1⟩
  · have hd : decide ((100 : Int) < (l.length : Int)) = false := by simp; omega
    generalize l.length = n at *
    go_enter Try.func7, Try.ntmps7
    go_wp2_with fail
    refine HN.out.mono ?_
    rintro e w1 ⟨b, L, rfl, h1, h2, h3⟩
    have H0 : Hid (ActsAt w b w1.heap.size 0 (w1.alloc (.cells #[.slice none 0 0, .slice none 0 0] 59))) := ⟨emptySt, St.Fit.empty, two_start h1 h2 h3⟩
    clear h1 h2 h3
    go_wp2_with fail
    generalize w1.heap.size = m at *
    go_loopw [18] (fun i wr => ∃ k : Nat, i = .int .i64 k ∧ k ≤ n ∧ ActsAt w b m k wr) (fun i _ => n - (intOf i).toNat)
    case atStart => exact ⟨0, rfl, by omega, H0.out⟩
    case round =>
      obtain ⟨k, rfl, hk, hA⟩ := hrel
      have HA := Lib.hid hA
      clear hA H0
      by_cases hlt : k < n
      · obtain ⟨x, hx⟩ := HGET.out k hlt
        obtain ⟨a, rfl, hc⟩ := HC.out wr k x (HB.out _ _ _ _ HA.out) hx
        obtain ⟨e, f, p, P1, P2, P3, P4, P5, c1, c2, c3, c4, c5, c6⟩ := HR.out b m k wr HA.out (by omega) x
        have C1 := Lib.hid c1
        have C2 := Lib.hid c2
        have C3 := Lib.hid c3
        have C4 := Lib.hid c4
        have C5 := Lib.hid c5
        have C6 := Lib.hid c6
        clear c1 c2 c3 c4 c5 c6 hx
        go_wp2_with (first
          | (go_at_call 9; refine Calls.mono C1.out ?_; rintro e1 w2 ⟨rfl, h1⟩)
          | (go_at_call 25; refine Calls.mono (C2.out _ h1) ?_; rintro e1 w3 ⟨rfl, h2⟩)
          | (go_at_call 10; refine Calls.mono (C3.out _ h2) ?_; rintro e1 w4 ⟨rfl, h3⟩)
          | (go_at_call 26; refine Calls.mono (C4.out _ h3) ?_; rintro e1 w5 ⟨rfl, h4⟩)
          | (go_at_call 11; refine Calls.mono (C5.out _ h4) ?_; rintro e1 w6 ⟨rfl, h5⟩)
          | (go_at_call 27; refine Calls.mono (C6.out _ h5) ?_; rintro e1 w7 ⟨rfl, h6⟩))
        go_roundw
        case rel => exact ⟨k + 1, by go_num, by omega, h6⟩
        case measure => simp [intOf]; omega
      · obtain rfl : k = n := by omega
        obtain ⟨q, a2, c2, hq, hc, hcd, hAll⟩ := HD.out b m k wr HA.out (by omega)
        have HALL := Lib.hid hAll
        clear hAll
        go_wp2_with fail
        go_region_held3 (fun w' => w'.cell? ⟨m, 0, none⟩ = some (.slice a2 q c2)) (go_keep)
          (first
            | (go_at_call 19; refine HALL.out.mono ?_; rintro e w2 ⟨a1, c1, rfl, hc2, hS⟩; have HS := Lib.hid hS; clear hS)
            | (go_at_call 18; refine HS.out.mono ?_; rintro e w3 ⟨rfl, hc3, hL⟩; have HLL := Lib.hid hL; clear hL)
            | (go_at_call 12; refine HLL.out.mono ?_; rintro e w4 ⟨rfl, hc4, hB4⟩))
        go_wp2
        go_ret
        exact ⟨rfl, hB4⟩
end Go.Proofs.Ytgnnnjabgoadaaa
