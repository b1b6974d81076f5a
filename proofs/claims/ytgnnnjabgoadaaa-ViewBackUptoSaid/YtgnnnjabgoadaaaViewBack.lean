/- What is proved here: the given statement ViewBackUptoSaid: the law ViewBack returns true at every input of bulk at most 1048576, and what was there when it was called stands. -/
import Derived.Test.YtgnnnjabgoadaaaRow
import Derived.Test.YtgnnnjabgoadaaaBackW
import Derived.Test.YtgnnnjabgoadaaaBack
import Derived.Test.YtgnnnjabgoadaaaOpenInts
import Derived.JoinedCond
namespace Go.Proofs.Ytgnnnjabgoadaaa.viewBack
open Go.ChangeShapes Go.WideShapes Go.ChangeAt Go.RowKit
set_option linter.unusedVariables false

theorem params : Try.f4.params = #[35, 35, 36] := rfl

set_option maxRecDepth 100000 in
theorem lifted (os : Os) (started : os.Started) (H : Type) (enc : TypeId × Value → H) (F0 : Stop.Interp) :
    ReturnsInHanded {} Try.checked os 4 .any ((Rows.OpenSpec.upto Rows.viewBackSpec).pre6 enc Try.prog Try.f4 Rows.viewBackUptoRow.domain false) (((Rows.OpenSpec.upto Rows.viewBackSpec).at F0).post enc Try.prog Try.f4 false true false false) := by
  refine returnsInHanded_of_cond (C := Try.checked) (s := Rows.OpenSpec.upto Rows.viewBackSpec) (k := Rows.uptoSmall) rfl own started (by kernel_rfl) Try.func4
    (OpenSpec.witness (enc := enc) (C := Try.checked) (s := Rows.OpenSpec.upto Rows.viewBackSpec) (k := Rows.uptoSmall) rfl false ⟨#[], #[.slice none 0 0, .slice none 0 0, .slice none 0 0], []⟩ 8 (by kernel_rfl) (by kernel_rfl) (by kernel_rfl)
      (x := ([.nil, .nil, .nil], [], [])) (by kernel_rfl) (by kernel_rfl) (by kernel_rfl)) ?_
  intro W base args ds gs before hval0 hW hcnd hk _
  have hval : ∀ (j : Nat) t v, Try.f4.params[j]? = some t → args[j]? = some v → Value.okWide Try.prog W .any base t v := hval0
  have hW' := hW
  obtain ⟨p, q, hA0, hV, rfl, hfz, hnd⟩ := hW
  have hA : DataW.TrodAll enc Try.prog W 0 (fun _ => true) true Try.f4.params.toList args.toList ds p := hA0
  rw [params] at hA hval
  obtain ⟨v0, vs0, d0, ds0, p0, q0, hargs, rfl, rfl, h0, r0⟩ := trodAll_cons hA
  obtain ⟨v1, vs1, d1, ds1, p1, q1, rfl, rfl, rfl, h1, r1⟩ := trodAll_cons r0
  obtain ⟨v2, vs2, d2, ds2, p2, q2, rfl, rfl, rfl, h2, r2⟩ := trodAll_cons r1
  obtain ⟨rfl, rfl, rfl⟩ := trodAll_nil r2
  obtain rfl : args = #[v0, v1, v2] := by cases args; simp_all
  obtain ⟨rfl, rfl⟩ := trodVars_none hV
  obtain ⟨l0, a0, c0, rfl, hp0, hb0⟩ := open_pairsV (hval 0 35 v0 rfl rfl) h0
  obtain ⟨l1, a1, c1, rfl, hp1, hb1⟩ := open_pairsV (hval 1 35 v1 rfl rfl) h1
  obtain ⟨l2, a2, c2, rfl, hl2, hc2⟩ := open_bytesV (hval 2 36 v2 rfl rfl) h2
  clear hA0 hval0
  have hbulk : totE l0 + totE l1 ≤ 1048576 := by
    have hk' : Rows.uptoBulkAll ([d0, d1, d2] ++ []) ≤ 1048576 := of_decide_eq_true hk
    simp only [List.append_nil, Rows.uptoBulkAll] at hk'
    omega
  have hwalk : Calls Try.prog 4 #[.slice a0 l0.length c0, .slice a1 l1.length c1, .slice a2 l2.length c2] W fun e w' => e = .returned (.bool true) ∧ Below W.heap.size W w' := by
    by_cases g : l0.length ≤ 60 ∧ l1.length ≤ 60 ∧ l2.length ≤ 5000
    · exact back_walk W a0 c0 l0 a1 c1 l1 a2 c2 l2 hp0 hp1 hl2 hbulk g.1 g.2.1 g.2.2
    · exact back_long W a0 _ c0 a1 _ c1 a2 _ c2 g
  refine hwalk.mono fun e W' ⟨he, hg⟩ => ?_
  subst he
  exact ⟨_, rfl, post_true (s := (Rows.OpenSpec.upto Rows.viewBackSpec).at F0) laid (tb := 4) (by kernel_rfl) rfl (fine_all (by kernel_rfl)) rfl hW' rfl hg⟩

theorem over : Rows.viewBackUptoRow.holds Try.pinned (Rows.OpenSpec.upto Rows.viewBackSpec) :=
  OpenClaim.holds_of_cond 4 Try.f4 rfl rfl rfl rfl rfl rfl rfl ⟨rfl, rfl, rfl, rfl, rfl⟩ rfl rfl rfl rfl rfl (by kernel_rfl) Try.func4 (by kernel_rfl)
    (of_decide_eq_true (by kernel_rfl)) (by unfold Func.isWrapper; first | (rw [if_pos (by decide +kernel)]; kernel_rfl) | (rw [if_neg (by decide +kernel)]; exact ⟨rfl, rfl⟩))
    (fun os started H enc _ F0 => lifted os started H enc F0)

/-- ████ THE STATEMENT ████ -/
theorem proved : Rows.ViewBackUptoSaid :=
  over
#print axioms proved
end Go.Proofs.Ytgnnnjabgoadaaa.viewBack
