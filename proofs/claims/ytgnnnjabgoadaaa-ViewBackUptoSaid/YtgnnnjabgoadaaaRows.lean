/-
  No cell of these rows narrows 'for every input' (looked for: loops, veiled, ifaces, maps, wideKeys, modest, calm, conditions, laid).
  DERIVED. THE GIVEN ROWS OF THIS SEAT. 6 by the template 'for every input the law returns true; each argument reads behind the call as it read before'; 0 by the template 'total and deterministic' (their statements: YtgnnnjabgoadaaaTotals.lean).
  GIVEN WITH THE SEED: the statements are not yours to turn. If you find one false, say at which input.
  Laid BY PROGRAM, IN A SANDBOX (cutbox-rows.mjs): the forced cells as the released guide's own fill.sh prints them over the translation 45029e81866b6d9c… (all of the seat's roots in one cut). By AI agents, Wed Nov 11 2026. No macro, syntax, notation, axiom, sorry.
-/
import Derived.Test.YtgnnnjabgoadaaaChecked
import GoSem.Claim
import GoSem.ClaimJoined
import GoSem.ClaimMapViews
import Derived.JoinedTies
import Derived.KernelRfl
namespace Go.Proofs.Ytgnnnjabgoadaaa
/- THE CELL 'sum', in the pinned program and in every row, IS THE sha256 OF THE DUMP (.gsa) THAT YtgnnnjabgoadaaaProg.lean LOADS. Nothing in Lean hashes anything: it is a label: what it is worth is what the hold of that sum in a sandbox is worth. -/
noncomputable def Try.pinned : Pinned := { name := "ytgnnnjabgoadaaa", sum := "45029e81866b6d9c290a7a839f46bdee4fc840acff8a7ab047b8e8c1ade36492", checked := Try.checked }
namespace Rows
def none {H : Type} : Left H := { results := [], args := [] }

/-- 'tallagelaw35.PauseNone': WHATEVER THE INPUT: true; the input reads as it did. -/
def pauseNoneSpec : ChangeSpec := { name := "pauseNone", fn := fun _ => fun
  | [d1, d2] => { results := [.lit (.bool true)], args := [d1, d2] }
  | _ => none }
def pauseNoneRow : OpenClaim := { program := "ytgnnnjabgoadaaa", sum := "45029e81866b6d9c290a7a839f46bdee4fc840acff8a7ab047b8e8c1ade36492", func := "tallage/tallagelaw35.PauseNone", spec := "pauseNone", inPlace := ["internal/abi.NoEscape", "internal/bytealg.abigen_runtime_cmpstring", "slices.overlaps[string]", "slices.overlaps[tallage/store.block]"], unfollowed := true, recurses := true, apart := false }
def PauseNoneSaid : Prop := pauseNoneRow.holds Try.pinned (OpenSpec.ofChange pauseNoneSpec)

/-- ITS FALSE NEIGHBOUR: 'it returns false'. Refute it at one input. -/
def pauseNoneWrong : ChangeSpec := { name := "pauseNone", fn := fun _ => fun
  | [d1, d2] => { results := [.lit (.bool false)], args := [d1, d2] }
  | _ => none }
def PauseNoneWrongFalsely : Prop := pauseNoneRow.holds Try.pinned (OpenSpec.ofChange pauseNoneWrong)

/-- 'tallagelaw37.ViewBack': WHATEVER THE INPUT: true; the input reads as it did. -/
def viewBackSpec : ChangeSpec := { name := "viewBack", fn := fun _ => fun
  | [d1, d2, d3] => { results := [.lit (.bool true)], args := [d1, d2, d3] }
  | _ => none }
def viewBackRow : OpenClaim := { program := "ytgnnnjabgoadaaa", sum := "45029e81866b6d9c290a7a839f46bdee4fc840acff8a7ab047b8e8c1ade36492", func := "tallage/tallagelaw37.ViewBack", spec := "viewBack", inPlace := ["internal/bytealg.abigen_runtime_cmpstring", "slices.overlaps[string]", "slices.overlaps[tallage/store.block]"], unfollowed := true, recurses := true, apart := false }
def ViewBackSaid : Prop := viewBackRow.holds Try.pinned (OpenSpec.ofChange viewBackSpec)

/-- ITS FALSE NEIGHBOUR: 'it returns false'. Refute it at one input. -/
def viewBackWrong : ChangeSpec := { name := "viewBack", fn := fun _ => fun
  | [d1, d2, d3] => { results := [.lit (.bool false)], args := [d1, d2, d3] }
  | _ => none }
def ViewBackWrongFalsely : Prop := viewBackRow.holds Try.pinned (OpenSpec.ofChange viewBackWrong)

/-- 'tallagelaw37.ViewLoads': WHATEVER THE INPUT: true; the input reads as it did. -/
def viewLoadsSpec : ChangeSpec := { name := "viewLoads", fn := fun _ => fun
  | [d] => { results := [.lit (.bool true)], args := [d] }
  | _ => none }
def viewLoadsRow : OpenClaim := { program := "ytgnnnjabgoadaaa", sum := "45029e81866b6d9c290a7a839f46bdee4fc840acff8a7ab047b8e8c1ade36492", func := "tallage/tallagelaw37.ViewLoads", spec := "viewLoads", inPlace := ["internal/bytealg.abigen_runtime_cmpstring", "slices.overlaps[string]", "slices.overlaps[tallage/store.block]"], unfollowed := true, recurses := true, apart := false }
def ViewLoadsSaid : Prop := viewLoadsRow.holds Try.pinned (OpenSpec.ofChange viewLoadsSpec)

/-- ITS FALSE NEIGHBOUR: 'it returns false'. Refute it at one input. -/
def viewLoadsWrong : ChangeSpec := { name := "viewLoads", fn := fun _ => fun
  | [d] => { results := [.lit (.bool false)], args := [d] }
  | _ => none }
def ViewLoadsWrongFalsely : Prop := viewLoadsRow.holds Try.pinned (OpenSpec.ofChange viewLoadsWrong)

/-- 'tallagelaw35.PauseBits': WHATEVER THE INPUT: true; the input reads as it did. -/
def pauseBitsSpec : ChangeSpec := { name := "pauseBits", fn := fun _ => fun
  | [d1, d2, d3] => { results := [.lit (.bool true)], args := [d1, d2, d3] }
  | _ => none }
def pauseBitsRow : OpenClaim := { program := "ytgnnnjabgoadaaa", sum := "45029e81866b6d9c290a7a839f46bdee4fc840acff8a7ab047b8e8c1ade36492", func := "tallage/tallagelaw35.PauseBits", spec := "pauseBits", inPlace := ["internal/abi.NoEscape", "internal/bytealg.abigen_runtime_cmpstring", "slices.overlaps[string]", "slices.overlaps[tallage/store.block]"], unfollowed := true, recurses := true, apart := false }
def PauseBitsSaid : Prop := pauseBitsRow.holds Try.pinned (OpenSpec.ofChange pauseBitsSpec)

/-- ITS FALSE NEIGHBOUR: 'it returns false'. Refute it at one input. -/
def pauseBitsWrong : ChangeSpec := { name := "pauseBits", fn := fun _ => fun
  | [d1, d2, d3] => { results := [.lit (.bool false)], args := [d1, d2, d3] }
  | _ => none }
def PauseBitsWrongFalsely : Prop := pauseBitsRow.holds Try.pinned (OpenSpec.ofChange pauseBitsWrong)

/-- 'tallagelaw35.PauseActs': WHATEVER THE INPUT: true; the input reads as it did. -/
def pauseActsSpec : ChangeSpec := { name := "pauseActs", fn := fun _ => fun
  | [d1, d2] => { results := [.lit (.bool true)], args := [d1, d2] }
  | _ => none }
def pauseActsRow : OpenClaim := { program := "ytgnnnjabgoadaaa", sum := "45029e81866b6d9c290a7a839f46bdee4fc840acff8a7ab047b8e8c1ade36492", func := "tallage/tallagelaw35.PauseActs", spec := "pauseActs", inPlace := ["internal/abi.NoEscape", "internal/bytealg.abigen_runtime_cmpstring", "slices.overlaps[string]", "slices.overlaps[tallage/store.block]"], unfollowed := true, recurses := true, apart := false }
def PauseActsSaid : Prop := pauseActsRow.holds Try.pinned (OpenSpec.ofChange pauseActsSpec)

/-- ITS FALSE NEIGHBOUR: 'it returns false'. Refute it at one input. -/
def pauseActsWrong : ChangeSpec := { name := "pauseActs", fn := fun _ => fun
  | [d1, d2] => { results := [.lit (.bool false)], args := [d1, d2] }
  | _ => none }
def PauseActsWrongFalsely : Prop := pauseActsRow.holds Try.pinned (OpenSpec.ofChange pauseActsWrong)

/-- 'tallagelaw35.PauseTells': WHATEVER THE INPUT: true; the input reads as it did. -/
def pauseTellsSpec : ChangeSpec := { name := "pauseTells", fn := fun _ => fun
  | [d1, d2, d3] => { results := [.lit (.bool true)], args := [d1, d2, d3] }
  | _ => none }
def pauseTellsRow : OpenClaim := { program := "ytgnnnjabgoadaaa", sum := "45029e81866b6d9c290a7a839f46bdee4fc840acff8a7ab047b8e8c1ade36492", func := "tallage/tallagelaw35.PauseTells", spec := "pauseTells", inPlace := ["internal/abi.NoEscape", "internal/bytealg.abigen_runtime_cmpstring", "slices.overlaps[string]", "slices.overlaps[tallage/store.block]"], unfollowed := true, recurses := true, apart := false }
def PauseTellsSaid : Prop := pauseTellsRow.holds Try.pinned (OpenSpec.ofChange pauseTellsSpec)

/-- ITS FALSE NEIGHBOUR: 'it returns false'. Refute it at one input. -/
def pauseTellsWrong : ChangeSpec := { name := "pauseTells", fn := fun _ => fun
  | [d1, d2, d3] => { results := [.lit (.bool false)], args := [d1, d2, d3] }
  | _ => none }
def PauseTellsWrongFalsely : Prop := pauseTellsRow.holds Try.pinned (OpenSpec.ofChange pauseTellsWrong)

/- THE SECOND FORM. 'bulk': how many values and letters a reading holds, each counted each time it is reached (what is shared counts as often as it is met; a slice's spare places count too). A statement '..UptoSaid' is the law's where the arguments, and the package variables that the reading takes, are together of bulk at most 1048576: NARROWER than '..Said'. Prove '..Said' where nothing that the law and all that it calls make is longer than what came in: it says more and counts as full. Else prove '..UptoSaid'. A law counts once. -/
mutual
def uptoBulk {H : Type} : DataW H → Nat
  | .lit (.string bytes) => bytes.length + 1
  | .lit _ => 1
  | .nil => 1
  | .ptr d => uptoBulk d + 1
  | .slice elems spare => uptoBulkAll elems + uptoBulkAll spare + 1
  | .agg parts => uptoBulkAll parts + 1
  | .iface _ d => uptoBulk d + 1
  | .map entries => uptoBulkEntries entries + 1
  | .held _ => 1
def uptoBulkAll {H : Type} : List (DataW H) → Nat
  | [] => 0
  | d :: r => uptoBulk d + uptoBulkAll r
def uptoBulkEntries {H : Type} : List (Lit × DataW H) → Nat
  | [] => 0
  | x :: r => uptoBulkEntry x + uptoBulkEntries r
def uptoBulkEntry {H : Type} : Lit × DataW H → Nat
  | (.string bytes, d) => bytes.length + uptoBulk d + 1
  | (_, d) => uptoBulk d + 1
 end
def uptoSmall : (H : Type) → List (DataW H) → Bool := fun _ ds => decide (uptoBulkAll ds ≤ 1048576)
def OpenSpec.upto (s : _root_.Go.ChangeSpec) : _root_.Go.OpenSpec := { _root_.Go.OpenSpec.ofChange s with cond := some uptoSmall }

/-- 'tallagelaw35.PauseNone', WHERE WHAT IT READS IS OF BULK AT MOST 1048576: true; the input reads as it did. -/
def pauseNoneUptoRow : OpenClaim := { program := "ytgnnnjabgoadaaa", sum := "45029e81866b6d9c290a7a839f46bdee4fc840acff8a7ab047b8e8c1ade36492", func := "tallage/tallagelaw35.PauseNone", spec := "pauseNone", inPlace := ["internal/abi.NoEscape", "internal/bytealg.abigen_runtime_cmpstring", "slices.overlaps[string]", "slices.overlaps[tallage/store.block]"], unfollowed := true, recurses := true, apart := false, narrowed := true }
def PauseNoneUptoSaid : Prop := pauseNoneUptoRow.holds Try.pinned (OpenSpec.upto pauseNoneSpec)

/-- 'tallagelaw37.ViewBack', WHERE WHAT IT READS IS OF BULK AT MOST 1048576: true; the input reads as it did. -/
def viewBackUptoRow : OpenClaim := { program := "ytgnnnjabgoadaaa", sum := "45029e81866b6d9c290a7a839f46bdee4fc840acff8a7ab047b8e8c1ade36492", func := "tallage/tallagelaw37.ViewBack", spec := "viewBack", inPlace := ["internal/bytealg.abigen_runtime_cmpstring", "slices.overlaps[string]", "slices.overlaps[tallage/store.block]"], unfollowed := true, recurses := true, apart := false, narrowed := true }
def ViewBackUptoSaid : Prop := viewBackUptoRow.holds Try.pinned (OpenSpec.upto viewBackSpec)

/-- 'tallagelaw37.ViewLoads', WHERE WHAT IT READS IS OF BULK AT MOST 1048576: true; the input reads as it did. -/
def viewLoadsUptoRow : OpenClaim := { program := "ytgnnnjabgoadaaa", sum := "45029e81866b6d9c290a7a839f46bdee4fc840acff8a7ab047b8e8c1ade36492", func := "tallage/tallagelaw37.ViewLoads", spec := "viewLoads", inPlace := ["internal/bytealg.abigen_runtime_cmpstring", "slices.overlaps[string]", "slices.overlaps[tallage/store.block]"], unfollowed := true, recurses := true, apart := false, narrowed := true }
def ViewLoadsUptoSaid : Prop := viewLoadsUptoRow.holds Try.pinned (OpenSpec.upto viewLoadsSpec)

/-- 'tallagelaw35.PauseBits', WHERE WHAT IT READS IS OF BULK AT MOST 1048576: true; the input reads as it did. -/
def pauseBitsUptoRow : OpenClaim := { program := "ytgnnnjabgoadaaa", sum := "45029e81866b6d9c290a7a839f46bdee4fc840acff8a7ab047b8e8c1ade36492", func := "tallage/tallagelaw35.PauseBits", spec := "pauseBits", inPlace := ["internal/abi.NoEscape", "internal/bytealg.abigen_runtime_cmpstring", "slices.overlaps[string]", "slices.overlaps[tallage/store.block]"], unfollowed := true, recurses := true, apart := false, narrowed := true }
def PauseBitsUptoSaid : Prop := pauseBitsUptoRow.holds Try.pinned (OpenSpec.upto pauseBitsSpec)

/-- 'tallagelaw35.PauseActs', WHERE WHAT IT READS IS OF BULK AT MOST 1048576: true; the input reads as it did. -/
def pauseActsUptoRow : OpenClaim := { program := "ytgnnnjabgoadaaa", sum := "45029e81866b6d9c290a7a839f46bdee4fc840acff8a7ab047b8e8c1ade36492", func := "tallage/tallagelaw35.PauseActs", spec := "pauseActs", inPlace := ["internal/abi.NoEscape", "internal/bytealg.abigen_runtime_cmpstring", "slices.overlaps[string]", "slices.overlaps[tallage/store.block]"], unfollowed := true, recurses := true, apart := false, narrowed := true }
def PauseActsUptoSaid : Prop := pauseActsUptoRow.holds Try.pinned (OpenSpec.upto pauseActsSpec)

/-- 'tallagelaw35.PauseTells', WHERE WHAT IT READS IS OF BULK AT MOST 1048576: true; the input reads as it did. -/
def pauseTellsUptoRow : OpenClaim := { program := "ytgnnnjabgoadaaa", sum := "45029e81866b6d9c290a7a839f46bdee4fc840acff8a7ab047b8e8c1ade36492", func := "tallage/tallagelaw35.PauseTells", spec := "pauseTells", inPlace := ["internal/abi.NoEscape", "internal/bytealg.abigen_runtime_cmpstring", "slices.overlaps[string]", "slices.overlaps[tallage/store.block]"], unfollowed := true, recurses := true, apart := false, narrowed := true }
def PauseTellsUptoSaid : Prop := pauseTellsUptoRow.holds Try.pinned (OpenSpec.upto pauseTellsSpec)

end Rows
end Go.Proofs.Ytgnnnjabgoadaaa
