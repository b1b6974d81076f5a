/- What is proved here: a store's Set and Delete, whole. Its condition: entries and changes are fewer than 10^12. -/
import Derived.Test.YtgnnnjabgoadaaaSet
namespace Go.Proofs.Ytgnnnjabgoadaaa
open Go.RowKit

/-- A number is returned, and the store has become s'. -/
def RetSt (w : World) (b : Nat) (L : List Nat) (v : Value) (s' : St) (e : Ending) (w' : World) : Prop := e = .returned v ∧ ∃ L', SRep w' b s' L' ∧ Step w L w' L'

theorem Step.of_drew {w w' : World} {L L' : List Nat} (h : Step w.drew L w' L') : Step w L w' L' := ⟨⟨h.fr.os, h.fr.tape, h.fr.output, h.fr.size, h.fr.block⟩, h.own⟩

theorem emptyK {k : ByteArray} (h : k ≠ emptyB) : k.toList.isEmpty = false := by
  rw [ByteArray.toList_eq]
  cases hl : k.data.toList with
  | nil => exact absurd (ba_ext (by rw [hl]; rfl)) h
  | cons x l => rfl

set_option maxHeartbeats 400000 in
theorem set_nil (w : World) (k v : ByteArray) : Calls Try.prog 15 #[.pointer none, .string k, .string v] w fun e w' => e = .returned (.int .i64 1) ∧ w = w' := by
  go_enter Try.func15, Try.ntmps15
  go_wp2_with (go_at_call 37; refine (is_nil _).mono ?_; rintro e w' ⟨rfl, rfl⟩)
  go_ret
  exact ⟨rfl, rfl⟩

set_option maxRecDepth 100000 in
set_option maxHeartbeats 1000000 in
theorem set_same (w : World) (b : Nat) (s : St) (L : List Nat) (k v : ByteArray) (h : SRep w b s L) (hk : k ≠ emptyB) (hv : getE s.ents k = some v) :
    Calls Try.prog 15 #[.pointer (some ⟨b, 0, none⟩), .string k, .string v] w fun e w' => e = .returned (.int .i64 0) ∧ w = w' := by
  have hc0 := h.cell0
  have hke := emptyK hk
  obtain ⟨mb, es, clk, bv, pv, bs, h, rfl⟩ := h
  obtain ⟨_, hc1, _⟩ := head_cell h.hd
  have hlk := run_lookup_str mapT h.mp h.me h.srt k
  rw [hv] at hlk
  have HL := Lib.hid hlk
  have hvv : (v.toList == v.toList) = true := by simp
  clear h hlk hv hk
  go_enter Try.func15, Try.ntmps15
  go_wp2_with (first | (go_at_call 37; refine (is_at _ _ _ hc0).mono ?_; rintro e w' ⟨rfl, rfl⟩) | (with_reducible refine wpList_value (o := ⟨some 22, _, _, _, _, _⟩) rfl (.tuple #[.string v, .bool true]) w ?hr ?k))
  case hr =>
    refine exec_lookup (x := .tmp 20) (k := .tmp 21) (t := 22) (ok := true) (m := .map (some mb)) (kv := .string k) ?_ ?_ ?_ ?_
    · rfl
    · rfl
    · rfl
    · exact HL.out
  go_ret
  exact ⟨rfl, rfl⟩

set_option maxRecDepth 100000 in
set_option maxHeartbeats 1000000 in
theorem set_new (w : World) (b : Nat) (s : St) (L : List Nat) (k v : ByteArray) (h : SRep w b s L) (hk : k ≠ emptyB) (hn : (getE s.ents k).isSome = false) (hb : s.size < 1000000000000) :
    Calls Try.prog 15 #[.pointer (some ⟨b, 0, none⟩), .string k, .string v] w (RetSt w b L (.int .i64 0) (s.set k v)) := by
  have hc0 := h.cell0
  have hke := emptyK hk
  obtain ⟨mb, es, clk, bv, pv, bs, h, rfl⟩ := h
  obtain ⟨_, hc1, _, hc3, hfz⟩ := head_cell h.hd
  have hf3 := hfz 3
  have hlk := run_lookup_str mapT h.mp h.me h.srt k
  have hvl : (getE s.ents k).getD emptyB = s.val k := rfl
  rw [hn, hvl] at hlk
  have HL := Lib.hid hlk
  unfold St.size at hb
  have h' : SAt w.drew b mb es clk bv pv bs s := h.frame fun _ _ => rfl
  have HLAY := Lib.hid (lay_put_new w.drew b mb es clk bv pv bs s k v h' (by omega) hn)
  have hset : s.set k v = ⟨(s.lay k v true).ents, (s.lay k v true).past ++ [⟨k, s.val k, false⟩]⟩ := by
    unfold St.set
    rw [if_neg (by intro e; rw [e] at hn; simp at hn)]
    simp [St.lay, layE, St.was, hn]
  have hpl : (s.lay k v true).past.length = s.past.length := rfl
  have HP : Hid (∀ w1, Laid w.drew b mb bv pv bs (s.lay k v true) w1 → _) := fun w1 hL => past_push hL ⟨k, s.val k, false⟩ (by rw [hpl]; omega)
  rw [hset]
  generalize s.lay k v true = s1 at *
  generalize s.val k = v0 at *
  clear h h' hlk hn hk hvl hset hpl hfz hb
  go_enter Try.func15, Try.ntmps15
  go_wp2_with (first | (go_at_call 37; refine (is_at _ _ _ hc0).mono ?_; rintro e w' ⟨rfl, rfl⟩) | (with_reducible refine wpList_value (o := ⟨some 22, _, _, _, _, _⟩) rfl (.tuple #[.string v0, .bool false]) w ?hr ?k))
  case hr =>
    refine exec_lookup (x := .tmp 20) (k := .tmp 21) (t := 22) (ok := true) (m := .map (some mb)) (kv := .string k) ?_ ?_ ?_ ?_
    · rfl
    · rfl
    · rfl
    · exact HL.out
  go_region_law (first | (refine step_value (o := ⟨some 42, _, _, _, _, _⟩) rfl _ _ (exec_append rfl rfl rfl (hr _)) ?_) | (go_simp; go_at_call 38; refine HLAY.out.mono ?_; rintro e w1 ⟨rfl, hL⟩; obtain ⟨⟨hp1, hpa⟩, hbw1, g', c', w2, hr, hp2, hfz2, hfin⟩ := HP.out w1 hL))
  all_goals
    have HFIN := Lib.hid hfin
    clear hfin
    go_wp2
    go_ret
    obtain ⟨L', h1, h2⟩ := HFIN.out
    exact ⟨rfl, L', h1, h2.of_drew⟩

set_option maxRecDepth 100000 in
set_option maxHeartbeats 1000000 in
theorem set_old (w : World) (b : Nat) (s : St) (L : List Nat) (k v : ByteArray) (h : SRep w b s L) (hk : k ≠ emptyB) (hn : (getE s.ents k).isSome = true) (hd : getE s.ents k ≠ some v) (hb : s.size < 1000000000000) :
    Calls Try.prog 15 #[.pointer (some ⟨b, 0, none⟩), .string k, .string v] w (RetSt w b L (.int .i64 0) (s.set k v)) := by
  have hc0 := h.cell0
  have hke := emptyK hk
  obtain ⟨mb, es, clk, bv, pv, bs, h, rfl⟩ := h
  obtain ⟨_, hc1, _, hc3, hfz⟩ := head_cell h.hd
  have hf3 := hfz 3
  have hlk := run_lookup_str mapT h.mp h.me h.srt k
  have hvl : (getE s.ents k).getD emptyB = s.val k := rfl
  rw [hn, hvl] at hlk
  have HL := Lib.hid hlk
  unfold St.size at hb
  have h' : SAt w.drew b mb es clk bv pv bs s := h.frame fun _ _ => rfl
  have hvd : ((s.val k).toList == v.toList) = false := by
    rw [toList_beq, decide_eq_false_iff_not]
    intro e
    obtain ⟨x, hx⟩ := Option.isSome_iff_exists.1 hn
    have hx2 : s.val k = x := by unfold St.val; rw [hx]; rfl
    exact hd (by rw [hx, ← e, hx2])
  have HLAY := Lib.hid (lay_put_old w.drew b mb es clk bv pv bs s k v h' hn)
  have hset : s.set k v = ⟨(s.lay k v true).ents, (s.lay k v true).past ++ [⟨k, s.val k, true⟩]⟩ := by
    unfold St.set
    rw [if_neg hd]
    simp [St.lay, layE, St.was, hn]
  have hpl : (s.lay k v true).past.length = s.past.length := rfl
  have HP : Hid (∀ w1, Laid w.drew b mb bv pv bs (s.lay k v true) w1 → _) := fun w1 hL => past_push hL ⟨k, s.val k, true⟩ (by rw [hpl]; omega)
  rw [hset]
  generalize s.lay k v true = s1 at *
  generalize s.val k = v0 at *
  clear h h' hlk hn hd hk hvl hset hpl hfz hb
  go_enter Try.func15, Try.ntmps15
  go_wp2_with (first | (go_at_call 37; refine (is_at _ _ _ hc0).mono ?_; rintro e w' ⟨rfl, rfl⟩) | (with_reducible refine wpList_value (o := ⟨some 22, _, _, _, _, _⟩) rfl (.tuple #[.string v0,   .bool true]) w ?hr ?k))
  case hr =>
    refine exec_lookup (x := .tmp 20) (k := .tmp 21) (t := 22) (ok := true) (m := .map (some mb)) (kv := .string k) ?_ ?_ ?_ ?_
    · rfl
    · rfl
    · rfl
    · exact HL.out
  go_region_law (first | (refine step_value (o := ⟨some 42, _, _, _, _, _⟩) rfl _ _ (exec_append rfl rfl rfl (hr _)) ?_) | (go_simp; go_at_call 38; refine HLAY.out.mono ?_; rintro e w1 ⟨rfl, hL⟩; obtain ⟨⟨hp1, hpa⟩, hbw1, g', c', w2, hr, hp2, hfz2, hfin⟩ := HP.out w1 hL))
  all_goals
    have HFIN := Lib.hid hfin
    clear hfin
    go_wp2
    go_ret
    obtain ⟨L', h1, h2⟩ := HFIN.out
    exact ⟨rfl, L', h1, h2.of_drew⟩

/-- Set, on all its ways. -/
theorem set_any (w : World) (b : Nat) (s : St) (L : List Nat) (k v : ByteArray) (h : SRep w b s L) (hk : k ≠ emptyB) (hb : s.size < 1000000000000) :
    Calls Try.prog 15 #[.pointer (some ⟨b, 0, none⟩), .string k, .string v] w (RetSt w b L (.int .i64 0) (s.set k v)) := by
  by_cases hd : getE s.ents k = some v
  · refine (set_same w b s L k v h hk hd).mono fun e w' ⟨he, hw⟩ => ?_
    subst hw
    have : s.set k v = s := by unfold St.set; rw [if_pos hd]
    rw [this]
    exact ⟨he, L, h, Step.refl w L⟩
  · cases hn : (getE s.ents k).isSome with
    | false => exact set_new w b s L k v h hk hn hb
    | true => exact set_old w b s L k v h hk hn hd hb

end Go.Proofs.Ytgnnnjabgoadaaa
