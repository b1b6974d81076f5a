/- What is proved here: inside a fence, a load may be taken first where the region's other operations keep what it reads: the kit's law for calls (Derived.OrdersHeld), turned to a fence by its own law's moves (Derived.OrdersIn). No program's function is named. No condition. -/
import Derived.OrdersHeld
import Derived.OrdersIn
import Derived.Shelf.RegionOpen
namespace Go.Proofs.YtngaogfhijaaaaaGreat
open Go

section
variable {F : Fence} {n : Nat} {P : Program} {ops : Array Oper} {Q : Exit → Act → World → Prop} {md : Region.Mode} {S : World → Prop}

/-- It yields in every world that meets S, and is about to make no call. -/
def YieldsS (P : Program) (ops : Array Oper) (S : World → Prop) (o : Oper) (v : Value) (a : Act) : Prop := YieldsIf P ops S o v a ∧ ∀ w, o.about P w a.eval = none

theorem YieldsS.go {i : Nat} {o : Oper} {v : Value} {a : Act} (hro : F.round = none) (hi : ops[i]? = some o) (hy : YieldsS P ops S o v a) {K : Act → World → Prop} {w : World} (hS : S w) (h : K (a.put o.dst v) w) : wpOpIn F n P ops Q i K a w := by
  have hab : ∀ f, o.about P w a.eval = some f → F.fn f := fun f hf => by rw [hy.2 w] at hf; cases hf
  unfold wpOpIn
  simp only [hi]
  rcases hy.1 with ⟨hw, hv⟩ | ⟨hw, rfl⟩
  · simp only [hw, if_true, Oper.wpIn, hro, Oper.semAt_none, hv w hS, Oper.uponIn]; exact ⟨hab, h⟩
  · simp only [hw, Bool.false_eq_true, if_false]; exact ⟨hab, h⟩

theorem YieldsS.same {o : Oper} {v : Value} {a a' : Act} (hy : YieldsS P ops S o v a) (he : execOp a'.eval o = execOp a.eval o) (hw : Region.wanted o (yielded ops a'.tmps) = Region.wanted o (yielded ops a.tmps)) (hb : ∀ w, o.about P w a'.eval = o.about P w a.eval) : YieldsS P ops S o v a' :=
  ⟨hy.1.of_same he hw, fun w => by rw [hb w]; exact hy.2 w⟩

theorem putS {j : Nat} {oi oj : Oper} {v : Value} (hro : F.round = none) (hj : ops[j]? = some oj) (hap : oi.apart ops oj = true) (hsi : ∀ cs b, oi.op ≠ .select cs b) (hsj : ∀ cs b, oj.op ≠ .select cs b)
    (hQ : ∀ c a w, Q (.panic c) (a.put oi.dst v) w → Q (.panic c) a w) {K : Act → World → Prop} {a : Act} {w : World} (hy : YieldsS P ops S oi v a) (h : wpOpIn F n P ops Q j K (a.put oi.dst v) w) :
    wpOpIn F n P ops Q j (fun a' w' => YieldsS P ops S oi v a' ∧ K (a'.put oi.dst v) w') a w := by
  obtain ⟨h1, h2, h3⟩ := Oper.apart_spec hap
  have keep : ∀ (a : Act), YieldsS P ops S oi v a → ∀ u, YieldsS P ops S oi v (a.put oj.dst u) := fun a hy u =>
    hy.same (execOp_put oi hsi a oj.dst u h3) (wanted_put oi a oj.dst u h3) (fun w => about_put oi w a oj.dst u h3)
  unfold wpOpIn at *
  simp only [hj] at *
  rw [wanted_put oj a oi.dst v h1, about_put oj w a oi.dst v h1] at h
  split
  · rename_i hw
    simp only [hw, if_true] at h
    unfold Oper.wpIn at *
    rw [about_put oj w a oi.dst v h1, hro, Oper.semAt_none, execOp_put oj hsj a oi.dst v h1] at h
    obtain ⟨hA, h⟩ := h
    refine ⟨hA, ?_⟩
    rw [hro, Oper.semAt_none]
    generalize (execOp a.eval oj).run P w = r at *
    cases r with
    | halt x w' =>
      cases x <;> simp only [Oper.uponIn] at h ⊢
      case panic u => exact hQ _ _ _ h
    | ok x w' =>
      cases x <;> simp only [Oper.uponIn] at h ⊢
      case value u => exact ⟨keep a hy u, by rw [← Act.put_comm a v u h2]; exact h⟩
      case skip => exact ⟨keep a hy _, by rw [← Act.put_comm a v undef h2]; exact h⟩
      case defer d =>
        refine ⟨keep _ (hy.same (a' := { a with defers := d :: a.defers }) rfl rfl (fun _ => rfl)) _, ?_⟩
        rw [← Act.put_comm _ v undef h2, ← Act.put_defers]
        exact h
      case enter f args =>
        refine ⟨h.1, CallsIn.mono h.2 fun e w'' he => ?_⟩
        cases e with
        | returned u => exact ⟨keep a hy u, by rw [← Act.put_comm a v u h2]; exact he⟩
        | panicked c => exact hQ _ _ _ he
        | outgrown => exact he
      case row row args => exact ⟨h.1, RowsIn.mono h.2 fun u w'' he => ⟨keep a hy u, by rw [← Act.put_comm a v u h2]; exact he⟩⟩
      case round l f tmps assign body =>
        refine ⟨h.1, RoundIn.mono h.2 fun e w'' he => ?_⟩
        cases e with
        | returned u => exact ⟨keep a hy u, by rw [← Act.put_comm a v u h2]; exact he⟩
        | panicked c => exact hQ _ _ _ he
        | outgrown => exact he
  · rename_i hw
    simp only [hw] at h
    exact ⟨h.1, keep a hy _, by rw [← Act.put_comm a v undef h2]; exact h.2⟩

/-- Whatever order is picked, S behind each operation that is carried out and is to keep it. -/
def AnyS (F : Fence) (n : Nat) (P : Program) (md : Region.Mode) (ops : Array Oper) (Q : Exit → Act → World → Prop) (keep : Nat → Bool) (S : World → Prop) : Nat → Array Bool → Act → World → Prop
  | 0, listed, a, w => Region.ready md ops listed = [] ∧ Q .normal a w
  | fuel + 1, listed, a, w =>
    (Region.ready md ops listed = [] → Q .normal a w) ∧
    ∀ i ∈ Region.ready md ops listed, wpOpIn F n P ops Q i (fun a' w' => (keep i = true → S w') ∧ AnyS F n P md ops Q keep S fuel (listed.setIfInBounds i true) a' w') a w

variable {keep : Nat → Bool}

theorem anyS_in : ∀ (fuel : Nat) (listed : Array Bool) (a : Act) (w : World), AnyS F n P md ops Q keep S fuel listed a w → wpAnyIn F n P md ops Q fuel listed a w
  | 0, _, _, _, h => h
  | fuel + 1, _, _, _, h => ⟨h.1, fun i hi => wpOpIn_mono (fun a' w' h' => anyS_in fuel _ a' w' h'.2) (h.2 i hi)⟩

/-- It waits for i, or for one that does and has not come up. -/
inductive Waits (md : Region.Mode) (ops : Array Oper) (listed : Array Bool) (i : Nat) : Oper → Prop
  | here {oj : Oper} {e : Edge} (he : e ∈ oj.after) (hb : Region.binds md e = true) (h : e.on = i) : Waits md ops listed i oj
  | there {oj o2 : Oper} {e : Edge} (he : e ∈ oj.after) (hb : Region.binds md e = true) (h : listed.getD e.on true = false) (ho : ops[e.on]? = some o2) (hw : Waits md ops listed i o2) : Waits md ops listed i oj

def waitsB (md : Region.Mode) (ops : Array Oper) (listed : Array Bool) (i : Nat) : Nat → Oper → Bool
  | 0, _ => false
  | fuel + 1, oj => oj.after.toList.any fun e => Region.binds md e && (e.on == i || (!listed.getD e.on true && match ops[e.on]? with
    | some o2 => waitsB md ops listed i fuel o2
    | none => false))
theorem waitsB_spec {listed : Array Bool} {i : Nat} : ∀ (fuel : Nat) (oj : Oper), waitsB md ops listed i fuel oj = true → Waits md ops listed i oj
  | 0, _, h => by cases h
  | fuel + 1, oj, h => by
    unfold waitsB at h
    simp only [List.any_eq_true, Bool.and_eq_true, Bool.or_eq_true, beq_iff_eq, Bool.not_eq_true'] at h
    obtain ⟨e, he, hb, h2⟩ := h
    rcases h2 with h2 | ⟨h2, h3⟩
    · exact .here (Array.mem_toList_iff.1 he) hb h2
    · cases ho : ops[e.on]? with
      | none => rw [ho] at h3; cases h3
      | some o2 =>
        rw [ho] at h3
        exact .there (Array.mem_toList_iff.1 he) hb h2 ho (waitsB_spec fuel o2 h3)

def keptB (md : Region.Mode) (ops : Array Oper) (keep : Nat → Bool) (listed : Array Bool) (i : Nat) : Bool := (List.range ops.size).all fun j => j == i || listed.getD j true || keep j || match ops[j]? with
  | some oj => waitsB md ops listed i ops.size oj
  | none => true

theorem keptB_spec {listed : Array Bool} {i : Nat} (h : keptB md ops keep listed i = true) (j : Nat) (oj : Oper) (hj : ops[j]? = some oj) (hji : j ≠ i) (hl : listed.getD j true = false) : keep j = true ∨ Waits md ops listed i oj := by
  have hlt : j < ops.size := (Array.getElem?_eq_some_iff.1 hj).1
  have := List.all_eq_true.1 h j (List.mem_range.2 hlt)
  simp only [Bool.or_eq_true, beq_iff_eq, hl, Bool.false_eq_true, or_false, hj] at this
  rcases this with (h1 | h1) | h1
  · exact absurd h1 hji
  · exact .inl h1
  · exact .inr (waitsB_spec _ _ h1)

theorem listed_clash {listed : Array Bool} {k : Nat} (h1 : listed.getD k false = true) (h0 : listed.getD k true = false) : False := by
  rcases Nat.lt_or_ge k listed.size with h' | h'
  · simp [h'] at h0 h1; rw [h0] at h1; cases h1
  · simp [Array.getElem?_eq_none h'] at h1

theorem waits_not {listed : Array Bool} {i j : Nat} {oj : Oper} (hoj : ops[j]? = some oj) (hi : i ∈ Region.ready md ops listed) (hj : j ∈ Region.ready md ops listed) (h : Waits md ops listed i oj) : False := by
  obtain ⟨_, oj', hoj', hall⟩ := mem_ready.1 hj
  rw [hoj] at hoj'
  cases hoj'
  have h0 := (mem_ready.1 hi).1
  cases h with
  | here he hb h1 => exact listed_clash (hall _ he hb) (h1 ▸ h0)
  | there he hb h1 _ _ => exact listed_clash (hall _ he hb) h1

theorem Waits.later {listed : Array Bool} {i j : Nat} {ok : Oper} (hi : i ∈ Region.ready md ops listed) (hj : j ∈ Region.ready md ops listed) (h : Waits md ops listed i ok) : Waits md ops (listed.setIfInBounds j true) i ok := by
  induction h with
  | here he hb h1 => exact .here he hb h1
  | there he hb h1 ho hw ih =>
    refine .there he hb ?_ ho ih
    rw [getD_set_ne true fun e => ?_]
    · exact h1
    · subst e
      exact waits_not ho hi hj hw

theorem anyS_first {i : Nat} {oi : Oper} {v : Value} (hro : F.round = none) (hi : ops[i]? = some oi) (hsel : ∀ (j : Nat) (o : Oper) cs b, ops[j]? = some o → o.op ≠ .select cs b) (hQ : ∀ c a w, Q (.panic c) (a.put oi.dst v) w → Q (.panic c) a w) :
    ∀ (fuel : Nat) (listed : Array Bool) (a : Act) (w : World), (∀ j oj, ops[j]? = some oj → j ≠ i → listed.getD j true = false → (∀ e ∈ oj.after, Region.binds md e = true → e.on ≠ i) → oi.apart ops oj = true) →
      (∀ j oj, ops[j]? = some oj → j ≠ i → listed.getD j true = false → keep j = true ∨ Waits md ops listed i oj) →
      i ∈ Region.ready md ops listed → YieldsS P ops S oi v a → S w → AnyS F n P md ops Q keep S fuel (listed.setIfInBounds i true) (a.put oi.dst v) w → AnyS F n P md ops Q keep S (fuel + 1) listed a w := by
  intro fuel
  induction fuel with
  | zero =>
    intro listed a w _ _ hr hy hS H
    refine ⟨fun h => (by rw [h] at hr; cases hr), fun j hj => ?_⟩
    by_cases hji : j = i
    · subst hji; exact hy.go hro hi hS ⟨fun _ => hS, H⟩
    · have := ready_mono hj hji
      rw [H.1] at this
      cases this
  | succ fuel ih =>
    intro listed a w hfree hkept hr hy hS H
    refine ⟨fun h => (by rw [h] at hr; cases hr), fun j hj => ?_⟩
    by_cases hji : j = i
    · subst hji; exact hy.go hro hi hS ⟨fun _ => hS, H⟩
    obtain ⟨hjun, oj, hoj, hall⟩ := mem_ready.1 hj
    have hnot : ∀ e ∈ oj.after, Region.binds md e = true → e.on ≠ i := fun e he hb heq => listed_clash (hall e he hb) (heq ▸ (mem_ready.1 hr).1)
    have hkj : keep j = true := (hkept j oj hoj hji hjun).resolve_right fun h => waits_not hoj hr hj h
    refine wpOpIn_mono (fun a' w' h3 => ⟨h3.2.1, ih (listed.setIfInBounds j true) a' w' (fun k ok hk hki hun hno => ?_) (fun k ok hk hki hun => ?_) (ready_mono hr (Ne.symm hji)) h3.1 (h3.2.1 hkj) ?_⟩)
      (putS hro hoj (hfree j oj hoj hji hjun hnot) (fun cs b => hsel i oi cs b hi) (fun cs b => hsel j oj cs b hoj) hQ hy (H.2 j (ready_mono hj hji)))
    · refine hfree k ok hk hki ?_ hno
      by_cases hjk : j = k
      · subst hjk; exact hjun
      · rw [getD_set_ne true hjk] at hun; exact hun
    · have hun' : listed.getD k true = false := by
        by_cases hjk : j = k
        · subst hjk; exact hjun
        · rw [getD_set_ne true hjk] at hun; exact hun
      exact (hkept k ok hk hki hun').imp id fun h1 => h1.later hr hj
    · rw [Array.setIfInBounds_comm _ _ hji]
      exact h3.2.2

theorem anyS_take {i : Nat} {oi : Oper} {v : Value} {fuel : Nat} {listed : Array Bool} {a : Act} {w : World} (hro : F.round = none) (hi : ops[i]? = some oi)
    (hs : Region.noSelect ops = true) (hf : Region.free md ops listed i = true) (hk : keptB md ops keep listed i = true) (hr : (Region.ready md ops listed).contains i = true) (hQ : ∀ c a w, Q (.panic c) (a.put oi.dst v) w → Q (.panic c) a w)
    (hw : Region.wanted oi (yielded ops a.tmps) = true) (hab : ∀ w, oi.about P w a.eval = none) (hy : ∀ w, S w → (execOp a.eval oi).run P w = .ok (.value v) w) (hS : S w)
    (h : AnyS F n P md ops Q keep S fuel (listed.setIfInBounds i true) (a.put oi.dst v) w) : AnyS F n P md ops Q keep S (fuel + 1) listed a w :=
  anyS_first hro hi (Region.noSelect_spec hs) hQ fuel listed a w (Region.free_spec hi hf) (keptB_spec hk) (by simpa using hr) ⟨.inl ⟨hw, hy⟩, hab⟩ hS h

/-- One alone may come up: it is carried out, and S is shown behind it, where it is to keep it. -/
theorem anyS_one {i : Nat} {o : Oper} {fuel : Nat} {listed : Array Bool} {a : Act} {w : World} (ho : ops[i]? = some o) (hr : Region.ready md ops listed = [i]) (hw : Region.wanted o (yielded ops a.tmps) = true)
    (h : ∀ K : Act → World → Prop, (∀ a w, (keep i = true → S w) → AnyS F n P md ops Q keep S fuel (listed.setIfInBounds i true) a w → K a w) → Oper.wpIn F n P o a w K Q) : AnyS F n P md ops Q keep S (fuel + 1) listed a w := by
  refine ⟨fun h0 => (by rw [hr] at h0; cases h0), fun j hj => ?_⟩
  rw [hr] at hj
  obtain rfl := List.mem_singleton.1 hj
  refine wpOpIn_step ho fun K hK => ?_
  rw [if_pos hw]
  exact h K fun a w h1 h2 => hK a w ⟨h1, h2⟩

theorem anyS_done {listed : Array Bool} {a : Act} {w : World} (hr : Region.ready md ops listed = []) (h : Q .normal a w) : ∀ fuel, AnyS F n P md ops Q keep S fuel listed a w
  | 0 => ⟨hr, h⟩
  | _ + 1 => ⟨fun _ => h, by rw [hr]; simp⟩

theorem anyS_region {id : Nat} {a : Act} {w : World} (keep : Nat → Bool) (S : World → Prop) (hm : P.follows .mixedOrders = true) (h : AnyS F n P .any ops Q keep S ops.size (Array.replicate ops.size false) a w.drew) : (Code.region id ops true).wpIn F n P Q a w :=
  wpIn_region_any hm (anyS_in _ _ _ _ h)
end
end Go.Proofs.YtngaogfhijaaaaaGreat
