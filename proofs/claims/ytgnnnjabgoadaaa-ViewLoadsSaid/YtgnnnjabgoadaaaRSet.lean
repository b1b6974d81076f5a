/- What is proved here: the reference's store: Set and Delete. Their condition: fewer than 10^12 entries and changes. -/
import Derived.Test.YtgnnnjabgoadaaaRLay
import Derived.Test.YtgnnnjabgoadaaaSetW
namespace Go.Proofs.Ytgnnnjabgoadaaa
open Go.RowKit

theorem rwasT : SliceT Try.prog 57 131 (.agg #[.string ⟨#[]⟩, .string ⟨#[]⟩, .bool false]) 3 40 := ⟨by kernel_rfl, by kernel_rfl, rfl, by decide⟩

theorem was_one (x : Was) : ∀ u ∈ wasCells x, u.oneCell' = true := by
  intro u hu
  simp [wasCells] at hu
  rcases hu with rfl | rfl | rfl <;> rfl
theorem was_news (w : World) (x : Was) (t : TypeId) : ∀ j u, (wasCells x)[j]? = some u → (w.alloc (.cells #[.string x.key, .string x.val, .bool x.there] t)).cell? ((⟨w.heap.size, 0, none⟩ : Addr).add j) = some u := fun j u hj => by
  rw [Addr.add_lit, cell_of_row _ _ _ _ _ _ (heap_alloc_new w _)]
  simpa [wasCells] using hj

/-- A value is returned, and the reference's store has become s'. -/
def RetR (w : World) (b : Nat) (L : List Nat) (v : Value) (s' : St) (e : Ending) (w' : World) : Prop := e = .returned v ∧ ∃ L', RRep w' b s' L' ∧ Step w L w' L'

theorem rpast_push {w w2 : World} {b : Nat} {lv pv v' : Value} {s : St} (h : RAt w b lv pv s) (x : Was)
    (hA : Appended (w.alloc (.cells #[.string x.key, .string x.val, .bool x.there] 131)) 131 3 pv s.past.length 1 (s.past.flatMap wasCells) (wasCells x) v' w2) :
    (∃ a c, v' = .slice a (s.past.length + 1) c) ∧ w2.cell? ⟨b, 1, none⟩ = some pv ∧ w2.frozen? ⟨b, 1, none⟩ = false ∧ RAt (w2.setCell ⟨b, 1, none⟩ v') b lv v' ⟨s.ents, s.past ++ [x]⟩ ∧ Step w (rids b lv pv) (w2.setCell ⟨b, 1, none⟩ v') (rids b lv v') := by
  have hlt := h.lt
  have hbw := lt_of_at h.hd
  have hnd := h.nd
  have hF0 : Fr (fun k => pv.ownBlock = some k) w w2 := ((Fr.refl (fun k => pv.ownBlock = some k) w).alloc _).grown hA.grown (fun k hk => .inr hk)
  have hpb : pv.ownBlock ≠ some b := fun e => by simp [e] at hnd
  have hb2 : w2.heap[b]? = some (.cells #[lv, pv] 59 (0, 0)) := hF0.at h.hd hpb
  have hvb : ∀ g, v'.ownBlock = some g → g ≠ b := fun g hg e => by
    subst e
    rcases hA.block g hg with h1 | h1
    · exact hpb h1
    · simp at h1; omega
  have hvl : ∀ g g', v'.ownBlock = some g → lv.ownBlock = some g' → g ≠ g' := fun g g' hg hg' e => by
    subst e
    rcases hA.block g hg with h1 | h1
    · simp [hg', h1] at hnd
    · have := h.ls.lt g hg'; simp at h1; omega
  have hF : Fr (· ∈ rids b lv pv) w (w2.setCell ⟨b, 1, none⟩ v') := (hF0.mono (fun k _ hk => by simp [rids, hk])).setCell _ _ (.inr (by simp [rids]))
  obtain ⟨_, a, c, hv, _⟩ := hA.own.src
  refine ⟨⟨a, c, hv⟩, by rw [cell_of_row w2 b 1 _ _ _ hb2]; rfl, frozen_of_row w2 b 1 _ _ hb2, ⟨?_, ?_, ?_, h.srt, ?_⟩, hF, ?_⟩
  · rw [setCell_eq_setRow w2 b 1 _ _ _ v' hb2]; exact setRow_heap w2 b _ _ _ _ hb2
  · refine h.ls.frame fun k hk => ?_
    have hkb : k ≠ b := fun e => by subst e; simp [hk] at hnd
    have hkp : pv.ownBlock ≠ some k := fun e => by simp [hk, e] at hnd
    rw [Below.heap_setCell _ _ _ _ hkb, hF0.block k (h.ls.lt k hk) hkp]
  · have := hA.own
    have e : (s.past ++ [x]).flatMap wasCells = s.past.flatMap wasCells ++ wasCells x := by simp [List.flatMap_append]
    show Own _ _ _ _ (s.past ++ [x]).length _
    rw [e, List.length_append, List.length_singleton]
    exact this.frame fun k hk => Below.heap_setCell _ _ _ _ (hvb k hk)
  · cases hv2 : v'.ownBlock <;> cases hl : lv.ownBlock <;> simp
    · intro e; subst e; simp [hl] at hnd
    · exact fun e => hvb _ hv2 e.symm
    · refine ⟨⟨fun e => ?_, fun e => hvb _ hv2 e.symm⟩, fun e => hvl _ _ hv2 hl e.symm⟩
      subst e; simp [hl] at hnd
  · intro k hk
    simp only [rids, List.mem_cons, List.mem_append] at hk ⊢
    rcases hk with rfl | hk | hk
    · exact .inl (.inl rfl)
    · exact .inl (.inr (.inl hk))
    · rcases hA.block k (by simpa using hk) with h1 | h1
      · exact .inl (.inr (.inr (by simpa using h1)))
      · simp at h1; exact .inr (by omega)

theorem rlay_step {w w1 w' : World} {b : Nat} {L : List Nat} {lv pv : Value} {s' : St} {e : Ending} (hS : Step w L w1 (rids b lv pv)) (h : RetRLaid w1 b pv s' e w') : ∃ L', RRep w' b s' L' ∧ Step w L w' L' := by
  obtain ⟨_, lv', h1, h2, h3⟩ := h
  refine ⟨rids b lv' pv, ⟨lv', pv, h1, rfl⟩, hS.trans ⟨h3.mono (fun k _ hk => by simp [rids, hk]), fun k hk => ?_⟩⟩
  simp only [rids, List.mem_cons, List.mem_append] at hk ⊢
  rcases hk with rfl | hk | hk
  · exact .inl (.inl rfl)
  · exact .inr (h2 k (by simpa using hk))
  · exact .inl (.inr (.inr hk))

set_option maxRecDepth 100000 in
set_option maxHeartbeats 2000000 in
theorem rset_empty (w : World) (b : Nat) (v : ByteArray) : Calls Try.prog 75 #[.pointer (some ⟨b, 0, none⟩), .string emptyB, .string v] w fun e w' => e = .returned (.int .i64 2) ∧ w = w' := by
  unfold emptyB
  go_enter Try.func75, Try.ntmps75
  go_wp2
  go_ret
  exact ⟨rfl, rfl⟩

set_option maxRecDepth 100000 in
set_option maxHeartbeats 2000000 in
theorem rset_any (w : World) (b : Nat) (s : St) (L : List Nat) (k v : ByteArray) (h : RRep w b s L) (hk : k ≠ emptyB) (hb : s.size < 1000000000000) :
    Calls Try.prog 75 #[.pointer (some ⟨b, 0, none⟩), .string k, .string v] w (RetR w b L (.int .i64 0) (s.set k v)) := by
  unfold St.size at hb
  have HG := Lib.hid (rget_any w b s L k h (by omega))
  have hke := emptyK hk
  by_cases hd : getE s.ents k = some v
  · have hv : s.val k = v := by unfold St.val; rw [hd]; rfl
    have hs : (getE s.ents k).isSome = true := by rw [hd]; rfl
    rw [hv, hs] at HG
    have hset : s.set k v = s := by unfold St.set; rw [if_pos hd]
    have HE : Hid (RetR w b L (.int .i64 0) (s.set k v) (.returned (.int .i64 0)) w) := by rw [hset]; exact ⟨rfl, L, h, Step.refl w L⟩
    have hvv : (v.toList == v.toList) = true := by simp
    clear h hd hv hs hset hk
    generalize RetR w b L (.int .i64 0) (s.set k v) = R at *
    go_enter Try.func75, Try.ntmps75
    go_wp2_with (go_at_call 93; refine HG.out.mono ?_; rintro e w' ⟨rfl, rfl⟩)
    exact HE.out
  · obtain ⟨lv, pv, hR, rfl⟩ := h
    have hset : s.set k v = (St.lay ⟨s.ents, s.past ++ [⟨k, s.val k, (getE s.ents k).isSome⟩]⟩ k v true) := by
      unfold St.set
      rw [if_neg hd]
      simp [St.lay, layE, St.was]
    have HP : Hid (∀ v' w2, Appended (w.alloc (.cells #[.string k, .string (s.val k), .bool (getE s.ents k).isSome] 131)) 131 3 pv s.past.length 1 (s.past.flatMap wasCells) [.string k, .string (s.val k), .bool (getE s.ents k).isSome] v' w2 →
        (∃ a c, v' = .slice a (s.past.length + 1) c) ∧ w2.cell? ⟨b, 1, none⟩ = some pv ∧ w2.frozen? ⟨b, 1, none⟩ = false ∧
        Calls Try.prog 94 #[.pointer (some ⟨b, 0, none⟩), .string k, .string v, .bool true] (w2.setCell ⟨b, 1, none⟩ v') fun e w' => e = .returned (.tuple #[]) ∧ RetR w b (rids b lv pv) (.int .i64 0) (s.set k v) (.returned (.int .i64 0)) w') := fun v' w2 hA => by
      obtain ⟨h1, h2, h3, h4, h5⟩ := rpast_push hR ⟨k, s.val k, (getE s.ents k).isSome⟩ hA
      refine ⟨h1, h2, h3, (rlay_at _ b _ lv v' k v true h4 (by show s.ents.length < _; omega)).mono fun e w' hl => ⟨hl.1, rfl, ?_⟩⟩
      rw [hset]
      exact rlay_step h5 hl
    have hown : Own (w.alloc (.cells #[.string k, .string (s.val k), .bool (getE s.ents k).isSome] 131)) 131 3 pv s.past.length (s.past.flatMap wasCells) := hR.ps.fr ((Fr.refl (fun _ => False) w).alloc _) (fun _ _ => id)
    have HO := Lib.hid hown
    obtain ⟨hpl, ap, cp, rfl, _⟩ := hR.ps.src
    have hpc : w.cell? ⟨b, 1, none⟩ = some (.slice ap s.past.length cp) := by rw [cell_of_row w b 1 _ _ _ hR.hd]; rfl
    have hone := was_one ⟨k, s.val k, (getE s.ents k).isSome⟩
    have hnews := was_news w ⟨k, s.val k, (getE s.ents k).isSome⟩ 131
    unfold wasCells at hone hnews
    have hmx : s.past.length + 1 ≤ maxLen := by unfold maxLen; omega
    have hvd : ((getE s.ents k).isSome && ((s.val k).toList == v.toList)) = false := by
      cases hg : getE s.ents k with
      | none => rfl
      | some x =>
        have : s.val k = x := by unfold St.val; rw [hg]; rfl
        simp only [Option.isSome_some, Bool.true_and]
        rw [this, toList_beq, decide_eq_false_iff_not]
        intro e; subst e; exact hd hg
    clear hd hk hset
    generalize RetR w b (rids b lv (.slice ap s.past.length cp)) (.int .i64 0) (s.set k v) = R at *
    generalize s.val k = u at *
    have hpn : s.past.length < 1000000000000 := by omega
    generalize s.past.flatMap wasCells = X at *
    generalize s.past.length = n at *
    clear hR hpl hown
    cases hg : (getE s.ents k).isSome
    all_goals
      simp only [hg, Bool.true_and, Bool.false_and] at *
      go_enter Try.func75, Try.ntmps75
      go_wp2_with (first | (go_at_call 93; refine HG.out.mono ?_; rintro e w' ⟨rfl, rfl⟩) | (at_builtin; refine wpList_append_Own rfl _ _ 57 57 rfl rwasT rwasT _ n X rfl HO.out _ 1 _ _ rfl rfl hnews hone hmx (by omega) ?_))
    all_goals
      intro v1 w2 hA
      obtain ⟨⟨a1, c1, rfl⟩, hc2, hf2, hcall⟩ := HP.out v1 w2 hA
      have HC := Lib.hid hcall
      clear hA hcall HP HO
      go_wp2_with (go_at_call 94; refine HC.out.mono ?_; rintro e w' ⟨rfl, hR⟩)
      exact hR

set_option maxRecDepth 100000 in
set_option maxHeartbeats 2000000 in
theorem rdelete_any (w : World) (b : Nat) (s : St) (L : List Nat) (k : ByteArray) (h : RRep w b s L) (hb : s.size < 1000000000000) :
    Calls Try.prog 74 #[.pointer (some ⟨b, 0, none⟩), .string k] w (RetR w b L (.bool (getE s.ents k).isSome) (s.del k)) := by
  unfold St.size at hb
  have HG := Lib.hid (rget_any w b s L k h (by omega))
  cases hs : (getE s.ents k).isSome with
  | false =>
    rw [hs] at HG
    have hset : s.del k = s := by unfold St.del; rw [if_neg (by rw [hs]; simp)]
    have HE : Hid (RetR w b L (.bool false) (s.del k) (.returned (.bool false)) w) := by rw [hset]; exact ⟨rfl, L, h, Step.refl w L⟩
    clear h hs hset
    generalize RetR w b L (.bool false) (s.del k) = R at *
    go_enter Try.func74, Try.ntmps74
    go_wp2_with (go_at_call 93; refine HG.out.mono ?_; rintro e w' ⟨rfl, rfl⟩)
    exact HE.out
  | true =>
    rw [hs] at HG
    obtain ⟨lv, pv, hR, rfl⟩ := h
    have hset : s.del k = (St.lay ⟨s.ents, s.past ++ [⟨k, s.val k, true⟩]⟩ k ⟨#[]⟩ false) := by
      unfold St.del
      rw [if_pos hs]
      simp [St.lay, layE, St.was, hs]
    have HP : Hid (∀ v' w2, Appended (w.alloc (.cells #[.string k, .string (s.val k), .bool true] 131)) 131 3 pv s.past.length 1 (s.past.flatMap wasCells) [.string k, .string (s.val k), .bool true] v' w2 →
        (∃ a c, v' = .slice a (s.past.length + 1) c) ∧ w2.cell? ⟨b, 1, none⟩ = some pv ∧ w2.frozen? ⟨b, 1, none⟩ = false ∧
        Calls Try.prog 94 #[.pointer (some ⟨b, 0, none⟩), .string k, .string ⟨#[]⟩, .bool false] (w2.setCell ⟨b, 1, none⟩ v') fun e w' => e = .returned (.tuple #[]) ∧ RetR w b (rids b lv pv) (.bool true) (s.del k) (.returned (.bool true)) w') := fun v' w2 hA => by
      obtain ⟨h1, h2, h3, h4, h5⟩ := rpast_push hR ⟨k, s.val k, true⟩ hA
      refine ⟨h1, h2, h3, (rlay_at _ b _ lv v' k ⟨#[]⟩ false h4 (by show s.ents.length < _; omega)).mono fun e w' hl => ⟨hl.1, rfl, ?_⟩⟩
      rw [hset]
      exact rlay_step h5 hl
    have hown : Own (w.alloc (.cells #[.string k, .string (s.val k), .bool true] 131)) 131 3 pv s.past.length (s.past.flatMap wasCells) := hR.ps.fr ((Fr.refl (fun _ => False) w).alloc _) (fun _ _ => id)
    have HO := Lib.hid hown
    obtain ⟨hpl, ap, cp, rfl, _⟩ := hR.ps.src
    have hpc : w.cell? ⟨b, 1, none⟩ = some (.slice ap s.past.length cp) := by rw [cell_of_row w b 1 _ _ _ hR.hd]; rfl
    have hone := was_one ⟨k, s.val k, true⟩
    have hnews := was_news w ⟨k, s.val k, true⟩ 131
    unfold wasCells at hone hnews
    have hmx : s.past.length + 1 ≤ maxLen := by unfold maxLen; omega
    clear hset hs
    generalize RetR w b (rids b lv (.slice ap s.past.length cp)) (.bool true) (s.del k) = R at *
    generalize s.val k = u at *
    have hpn : s.past.length < 1000000000000 := by omega
    generalize s.past.flatMap wasCells = X at *
    generalize s.past.length = n at *
    clear hR hpl hown
    go_enter Try.func74, Try.ntmps74
    go_wp2_with (first | (go_at_call 93; refine HG.out.mono ?_; rintro e w' ⟨rfl, rfl⟩) | (at_builtin; refine wpList_append_Own rfl _ _ 57 57 rfl rwasT rwasT _ n X rfl HO.out _ 1 _ _ rfl rfl hnews hone hmx (by omega) ?_))
    intro v1 w2 hA
    obtain ⟨⟨a1, c1, rfl⟩, hc2, hf2, hcall⟩ := HP.out v1 w2 hA
    have HC := Lib.hid hcall
    clear hA hcall HP HO
    go_wp2_with (go_at_call 94; refine HC.out.mono ?_; rintro e w' ⟨rfl, hR⟩)
    exact hR
end Go.Proofs.Ytgnnnjabgoadaaa
