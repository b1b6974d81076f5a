/- What is proved here: the reference's Under: the entries whose keys begin so. Its condition: fewer than 10^12 entries. -/
import Derived.Test.YtnblhjndngpbnaaGreatUnder
namespace Go.Proofs.YtnblhjndngpbnaaGreat
open Go.RowKit

theorem underE_step (p : ByteArray) (l : List Ent) (k : Nat) (x : Ent) (h : l[k]? = some x) : underE p (l.take (k + 1)) = underE p (l.take k) ++ (if isPre p x.1 then [x] else []) := by
  have e : l.take (k + 1) = l.take k ++ [x] := by rw [List.take_add_one, h]; rfl
  rw [e]
  unfold underE
  rw [List.filter_append]
  cases hp : isPre p x.1 <;> simp [hp]

/-- Where Under's loop stands. -/
def RUnderAt (w : World) (p : ByteArray) (l : List Ent) (k : Nat) (v : Value) (wr : World) : Prop := OutAt w wr v (underE p (l.take k)).length (underE p (l.take k))

theorem RUnderAt.yes {w wr : World} {p : ByteArray} {l : List Ent} {k : Nat} {v : Value} (h : RUnderAt w p l k v wr) {x : Ent} (hx : l[k]? = some x) (hp : isPre p x.1 = true) {o1 o2 : Obj} {v' : Value} {w' : World}
    (hA : Appended ((wr.alloc o1).alloc o2) 71 2 v (underE p (l.take k)).length 1 (pairV (underE p (l.take k))) [.string x.1, .string x.2] v' w') : RUnderAt w p l (k + 1) v' w' := by
  unfold RUnderAt
  rw [underE_step p l k x hx, hp]
  simp only [if_true, List.length_append, List.length_singleton]
  exact ((OutAt.alloc h _).alloc _).next (l2 := [x]) hA

theorem RUnderAt.no {w wr : World} {p : ByteArray} {l : List Ent} {k : Nat} {v : Value} (h : RUnderAt w p l k v wr) {x : Ent} (hx : l[k]? = some x) (hp : isPre p x.1 = false) (o : Obj) : RUnderAt w p l (k + 1) v (wr.alloc o) := by
  unfold RUnderAt
  rw [underE_step p l k x hx, hp]
  simp only [Bool.false_eq_true, if_false, List.append_nil]
  exact OutAt.alloc h _

set_option maxRecDepth 100000 in
set_option maxHeartbeats 4000000 in
theorem runder_any (w : World) (b : Nat) (s : St) (L : List Nat) (p : ByteArray) (h : RRep w b s L) (hn : s.ents.length < 1000000000000) :
    Calls Tryz.prog 46 #[.pointer (some ⟨b, 0, none⟩), .string p] w (RetPairs w (underE p s.ents)) := by
  obtain ⟨lv, pv, h, rfl⟩ := h
  obtain ⟨a, c, rfl, hE⟩ := h.ents
  have hc := hE.hd
  have HAT : Hid (∀ wr k x, Below w.heap.size w wr → s.ents[k]? = some x → ∃ g, a = some ⟨g, 0, none⟩ ∧ wr.cell? ⟨g, k * 2, none⟩ = some (.string x.1) ∧ wr.cell? ⟨g, k * 2 + 1, none⟩ = some (.string x.2)) := fun wr k x hb hx => by
    obtain ⟨g, h1, h2, h3⟩ := hE.at0 k x hx
    exact ⟨g, h1, by rw [hb.cell (p := ⟨g, k * 2, none⟩) (World.block_lt_of_cell? w _ h2)]; exact h2, by rw [hb.cell (p := ⟨g, k * 2 + 1, none⟩) (World.block_lt_of_cell? w _ h3)]; exact h3⟩
  have HGET : Hid (∀ k, k < s.ents.length → ∃ x, s.ents[k]? = some x) := fun k hk => ⟨_, List.getElem?_eq_getElem hk⟩
  have HLEN : Hid (∀ k, (underE p (s.ents.take k)).length ≤ k) := fun k => Nat.le_trans (underE_len _ _) (by rw [List.length_take]; exact Nat.min_le_left _ _)
  have HEND : Hid (∀ v wr, RUnderAt w p s.ents s.ents.length v wr → RetPairs w (underE p s.ents) (.returned v) wr) := fun v wr hR => by
    unfold RUnderAt at hR
    rw [List.take_length] at hR
    exact ⟨v, rfl, hR⟩
  have H0 : Hid (RUnderAt w p s.ents 0 (.slice none 0 0) w) := OutAt.start w
  generalize RetPairs w (underE p s.ents) = R at *
  clear h hE
  generalize s.ents = l at *
  obtain ⟨n, hnl⟩ : ∃ n, l.length = n := ⟨_, rfl⟩
  rw [hnl] at hn hc HEND HGET
  clear hnl
  go_enter Tryz.func46, Tryz.ntmps46
  go_wp2_with fail
  go_loopw [5, 13] (fun v iv wr => ∃ k : Nat, iv = .int .i64 k ∧ k ≤ n ∧ RUnderAt w p l k v wr) (fun _ iv _ => n - (intOf iv).toNat)
  case atStart => exact ⟨0, rfl, by omega, H0.out⟩
  case round =>
    obtain ⟨k, rfl, hk, hR⟩ := hrel
    have HR := Lib.hid hR
    clear hR H0
    by_cases hlt : k < n
    · obtain ⟨x, hx⟩ := HGET.out k hlt
      obtain ⟨g, rfl, c1, c2⟩ := HAT.out wr k x HR.out.2.2 hx
      have hlen := HLEN.out k
      have HX := Lib.hid hx
      clear hx
      by_cases hz : p.size ≤ x.1.size
      · have hd : decide ((p.size : Int) ≤ (x.1.size : Int)) = true := by simpa using hz
        have he := extract_pre x.1 p
        cases hp : isPre p x.1 with
        | true =>
          rw [hp] at he
          have hY := fun o1 o2 v' w' => HR.out.yes HX.out hp (o1 := o1) (o2 := o2) (v' := v') (w' := w')
          have HY := Lib.hid hY
          have HO := Lib.hid HR.out
          obtain ⟨av, cv, hv⟩ : ∃ av cv, u5 = .slice av (underE p (l.take k)).length cv := by
            obtain ⟨_, a', c', h', _⟩ := HO.out.1.src
            exact ⟨a', c', h'⟩
          subst hv
          clear hY hp HR HAT
          have HOO : Hid (∀ o1 o2, Own ((wr.alloc o1).alloc o2) 71 2 (.slice av (underE p (l.take k)).length cv) (underE p (l.take k)).length (pairV (underE p (l.take k)))) := fun o1 o2 => ((OutAt.alloc HO.out o1).alloc o2).1
          generalize (underE p (l.take k)).length = m at *
          generalize pairV (underE p (l.take k)) = xs at *
          have HNEW := fun o => news_two (wr.alloc o) (.string x.1) (.string x.2) 71
          simp only [World.size_alloc] at HNEW
          have HNEWS := Lib.hid HNEW
          clear HNEW
          go_wp2_with (at_builtin; refine wpList_append_Own rfl _ _ 28 28 rfl pairT pairT _ m xs rfl (HOO.out _ _) _ 1 _ [.string x.1, .string x.2] rfl rfl (HNEWS.out _) (two_one _ _) (by unfold maxLen; omega) (by omega) ?_)
          intro v' w' hA
          have HR2 := Lib.hid (HY.out _ _ _ _ hA)
          clear hA
          go_wp2_with fail
          go_roundw
          case rel => exact ⟨k + 1, by go_num, by omega, HR2.out⟩
          case measure => simp [intOf]; omega
        | false =>
          rw [hp] at he
          have HN := Lib.hid (HR.out.no HX.out hp)
          clear hp HR HAT
          go_wp2_with fail
          go_roundw
          case rel => exact ⟨k + 1, by go_num, by omega, HN.out _⟩
          case measure => simp [intOf]; omega
      · have hd : decide ((p.size : Int) ≤ (x.1.size : Int)) = false := by simpa using hz
        have HN := Lib.hid (HR.out.no HX.out (isPre_short hz))
        clear HR HAT
        go_wp2_with fail
        go_roundw
        case rel => exact ⟨k + 1, by go_num, by omega, HN.out _⟩
        case measure => simp [intOf]; omega
    · obtain rfl : k = n := by omega
      have HE2 := Lib.hid (HEND.out _ _ HR.out)
      go_wp2_with fail
      exact HE2.out
end Go.Proofs.YtnblhjndngpbnaaGreat
