/- What is proved here: a store's Delete. Its condition: entries and changes are fewer than 10^12. -/
import Derived.Test.YtgnnnjabgoadaaaSetW
namespace Go.Proofs.Ytgnnnjabgoadaaa
open Go.RowKit

set_option maxHeartbeats 400000 in
theorem delete_not (w : World) (b : Nat) (s : St) (L : List Nat) (k : ByteArray) (h : SRep w b s L) (hn : (getE s.ents k).isSome = false) :
    Calls Try.prog 79 #[.pointer (some ⟨b, 0, none⟩), .string k] w fun e w' => e = .returned (.bool false) ∧ w = w' := by
  have HG := Lib.hid (get_any w b s L k h)
  rw [hn] at HG
  clear h hn
  go_enter Try.func79, Try.ntmps79
  go_wp2_with (go_at_call 81; refine HG.out.mono ?_; rintro e w' ⟨rfl, rfl⟩)
  go_ret
  exact ⟨rfl, rfl⟩

set_option maxRecDepth 100000 in
set_option maxHeartbeats 1000000 in
theorem delete_is (w : World) (b : Nat) (s : St) (L : List Nat) (k : ByteArray) (h : SRep w b s L) (hn : (getE s.ents k).isSome = true) (hb : s.size < 1000000000000) :
    Calls Try.prog 79 #[.pointer (some ⟨b, 0, none⟩), .string k] w (RetSt w b L (.bool true) (s.del k)) := by
  have HG := Lib.hid (get_any w b s L k h)
  rw [hn] at HG
  obtain ⟨mb, es, clk, bv, pv, bs, h, rfl⟩ := h
  obtain ⟨_, hc1, _, hc3, hfz⟩ := head_cell h.hd
  have hf3 := hfz 3
  unfold St.size at hb
  have h' : SAt w.drew b mb es clk bv pv bs s := h.frame fun _ _ => rfl
  have HLAY := Lib.hid (lay_del w.drew b mb es clk bv pv bs s k ⟨#[]⟩ h' (by omega) hn)
  have hset : s.del k = ⟨(s.lay k ⟨#[]⟩ false).ents, (s.lay k ⟨#[]⟩ false).past ++ [⟨k, s.val k, true⟩]⟩ := by
    unfold St.del
    rw [if_pos hn]
    simp [St.lay, layE, St.was, hn]
  have hpl : (s.lay k ⟨#[]⟩ false).past.length = s.past.length := rfl
  have HP : Hid (∀ w1, Laid w.drew b mb bv pv bs (s.lay k ⟨#[]⟩ false) w1 → _) := fun w1 hL => past_push hL ⟨k, s.val k, true⟩ (by rw [hpl]; omega)
  rw [hset]
  generalize s.lay k ⟨#[]⟩ false = s1 at *
  generalize s.val k = v0 at *
  clear h h' hn hset hpl hfz hb
  go_enter Try.func79, Try.ntmps79
  go_wp2_with (go_at_call 81; refine HG.out.mono ?_; rintro e w' ⟨rfl, rfl⟩)
  go_region_law (first | (refine step_value (o := ⟨some 24, _, _, _, _, _⟩) rfl _ _ (exec_append rfl rfl rfl (hr _)) ?_) | (go_simp; go_at_call 38; refine HLAY.out.mono ?_; rintro e w1 ⟨rfl, hL⟩; obtain ⟨⟨hp1, hpa⟩, hbw1, g', c', w2, hr, hp2, hfz2, hfin⟩ := HP.out w1 hL))
  all_goals
    have HFIN := Lib.hid hfin
    clear hfin
    go_wp2
    go_ret
    obtain ⟨L', h1, h2⟩ := HFIN.out
    exact ⟨rfl, L', h1, h2.of_drew⟩

/-- Delete, whole: is there such an entry? -/
theorem delete_any (w : World) (b : Nat) (s : St) (L : List Nat) (k : ByteArray) (h : SRep w b s L) (hb : s.size < 1000000000000) :
    Calls Try.prog 79 #[.pointer (some ⟨b, 0, none⟩), .string k] w (RetSt w b L (.bool (getE s.ents k).isSome) (s.del k)) := by
  cases hn : (getE s.ents k).isSome with
  | false =>
    refine (delete_not w b s L k h hn).mono fun e w' ⟨he, hw⟩ => ?_
    subst hw
    have : s.del k = s := by unfold St.del; rw [if_neg (by rw [hn]; simp)]
    rw [this]
    exact ⟨he, L, h, Step.refl w L⟩
  | true => exact delete_is w b s L k h hn hb

end Go.Proofs.Ytgnnnjabgoadaaa
