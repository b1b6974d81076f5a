/-
  No cell of these rows narrows 'for every input' (looked for: loops, veiled, ifaces, maps, wideKeys, modest, calm, conditions, laid).
  DERIVED. THE GIVEN ROWS OF THIS SEAT. 8 by the template 'for every input the law returns true; each argument reads behind the call as it read before'; 0 by the template 'total and deterministic' (their statements: YtpojljieakdgiaaGreatTotals.lean).
  GIVEN WITH THE SEED: the statements are not yours to turn. If you find one false, say at which input.
  Laid BY PROGRAM, IN A SANDBOX (cutbox-rows.mjs): the forced cells as the released guide's own fill.sh prints them over the translation 7ac6615ab9c33967… (all of the seat's roots in one cut). By AI agents, Wed Nov 11 2026. No macro, syntax, notation, axiom, sorry.
-/
import Derived.Test.YtpojljieakdgiaaGreatChecked
import GoSem.Claim
import GoSem.ClaimJoined
import GoSem.ClaimMapViews
import Derived.JoinedTies
import Derived.KernelRfl
namespace Go.Proofs.YtpojljieakdgiaaGreat
/- THE CELL 'sum', in the pinned program and in every row, IS THE sha256 OF THE DUMP (.gsa) THAT YtpojljieakdgiaaGreatProg.lean LOADS. Nothing in Lean hashes anything: it is a label: what it is worth is what the hold of that sum in a sandbox is worth. -/
noncomputable def Tryz.pinned : Pinned := { name := "ytpojljieakdgiaagreat", sum := "7ac6615ab9c339679d73788b721c180d6b99c47650a72238120ca7a011961cf4", checked := Tryz.checked }
namespace Rows
def none {H : Type} : Left H := { results := [], args := [] }

/-- 'tallagelaw23.HoldingCovers': WHATEVER THE INPUT: true; the input reads as it did. -/
def holdingCoversSpec : ChangeSpec := { name := "holdingCovers", fn := fun _ => fun
  | [d] => { results := [.lit (.bool true)], args := [d] }
  | _ => none }
def holdingCoversRow : OpenClaim := { program := "ytpojljieakdgiaagreat", sum := "7ac6615ab9c339679d73788b721c180d6b99c47650a72238120ca7a011961cf4", func := "tallage/tallagelaw23.HoldingCovers", spec := "holdingCovers", inPlace := ["internal/bytealg.abigen_runtime_cmpstring", "slices.overlaps[string]", "slices.overlaps[tallage/store.block]", "internal/abi.NoEscape"], unfollowed := true, recurses := true, apart := false }
def HoldingCoversSaid : Prop := holdingCoversRow.holds Tryz.pinned (OpenSpec.ofChange holdingCoversSpec)

/-- ITS FALSE NEIGHBOUR: 'it returns false'. Refute it at one input. -/
def holdingCoversWrong : ChangeSpec := { name := "holdingCovers", fn := fun _ => fun
  | [d] => { results := [.lit (.bool false)], args := [d] }
  | _ => none }
def HoldingCoversWrongFalsely : Prop := holdingCoversRow.holds Tryz.pinned (OpenSpec.ofChange holdingCoversWrong)

/-- 'tallagelaw24.ExitPays': WHATEVER THE INPUT: true; the input reads as it did. -/
def exitPaysSpec : ChangeSpec := { name := "exitPays", fn := fun _ => fun
  | [d1, d2, d3] => { results := [.lit (.bool true)], args := [d1, d2, d3] }
  | _ => none }
def exitPaysRow : OpenClaim := { program := "ytpojljieakdgiaagreat", sum := "7ac6615ab9c339679d73788b721c180d6b99c47650a72238120ca7a011961cf4", func := "tallage/tallagelaw24.ExitPays", spec := "exitPays", inPlace := ["internal/abi.NoEscape", "internal/bytealg.abigen_runtime_cmpstring", "slices.overlaps[string]", "slices.overlaps[tallage/store.block]"], unfollowed := true, recurses := true, apart := false }
def ExitPaysSaid : Prop := exitPaysRow.holds Tryz.pinned (OpenSpec.ofChange exitPaysSpec)

/-- ITS FALSE NEIGHBOUR: 'it returns false'. Refute it at one input. -/
def exitPaysWrong : ChangeSpec := { name := "exitPays", fn := fun _ => fun
  | [d1, d2, d3] => { results := [.lit (.bool false)], args := [d1, d2, d3] }
  | _ => none }
def ExitPaysWrongFalsely : Prop := exitPaysRow.holds Tryz.pinned (OpenSpec.ofChange exitPaysWrong)

/-- 'tallagelaw23.HoldingUndone': WHATEVER THE INPUT: true; the input reads as it did. -/
def holdingUndoneSpec : ChangeSpec := { name := "holdingUndone", fn := fun _ => fun
  | [d1, d2] => { results := [.lit (.bool true)], args := [d1, d2] }
  | _ => none }
def holdingUndoneRow : OpenClaim := { program := "ytpojljieakdgiaagreat", sum := "7ac6615ab9c339679d73788b721c180d6b99c47650a72238120ca7a011961cf4", func := "tallage/tallagelaw23.HoldingUndone", spec := "holdingUndone", inPlace := ["internal/bytealg.abigen_runtime_cmpstring", "slices.overlaps[string]", "slices.overlaps[tallage/store.block]", "internal/abi.NoEscape"], unfollowed := true, recurses := true, apart := false }
def HoldingUndoneSaid : Prop := holdingUndoneRow.holds Tryz.pinned (OpenSpec.ofChange holdingUndoneSpec)

/-- ITS FALSE NEIGHBOUR: 'it returns false'. Refute it at one input. -/
def holdingUndoneWrong : ChangeSpec := { name := "holdingUndone", fn := fun _ => fun
  | [d1, d2] => { results := [.lit (.bool false)], args := [d1, d2] }
  | _ => none }
def HoldingUndoneWrongFalsely : Prop := holdingUndoneRow.holds Tryz.pinned (OpenSpec.ofChange holdingUndoneWrong)

/-- 'tallagelaw23.HoldingNone': WHATEVER THE INPUT: true; the input reads as it did. -/
def holdingNoneSpec : ChangeSpec := { name := "holdingNone", fn := fun _ => fun
  | [d] => { results := [.lit (.bool true)], args := [d] }
  | _ => none }
def holdingNoneRow : OpenClaim := { program := "ytpojljieakdgiaagreat", sum := "7ac6615ab9c339679d73788b721c180d6b99c47650a72238120ca7a011961cf4", func := "tallage/tallagelaw23.HoldingNone", spec := "holdingNone", inPlace := ["internal/bytealg.abigen_runtime_cmpstring", "slices.overlaps[string]", "slices.overlaps[tallage/store.block]", "internal/abi.NoEscape"], unfollowed := true, recurses := true, apart := false }
def HoldingNoneSaid : Prop := holdingNoneRow.holds Tryz.pinned (OpenSpec.ofChange holdingNoneSpec)

/-- ITS FALSE NEIGHBOUR: 'it returns false'. Refute it at one input. -/
def holdingNoneWrong : ChangeSpec := { name := "holdingNone", fn := fun _ => fun
  | [d] => { results := [.lit (.bool false)], args := [d] }
  | _ => none }
def HoldingNoneWrongFalsely : Prop := holdingNoneRow.holds Tryz.pinned (OpenSpec.ofChange holdingNoneWrong)

/-- 'tallagelaw23.HoldingActs': WHATEVER THE INPUT: true; the input reads as it did. -/
def holdingActsSpec : ChangeSpec := { name := "holdingActs", fn := fun _ => fun
  | [d] => { results := [.lit (.bool true)], args := [d] }
  | _ => none }
def holdingActsRow : OpenClaim := { program := "ytpojljieakdgiaagreat", sum := "7ac6615ab9c339679d73788b721c180d6b99c47650a72238120ca7a011961cf4", func := "tallage/tallagelaw23.HoldingActs", spec := "holdingActs", inPlace := ["internal/bytealg.abigen_runtime_cmpstring", "slices.overlaps[string]", "slices.overlaps[tallage/store.block]", "internal/abi.NoEscape"], unfollowed := true, recurses := true, apart := false }
def HoldingActsSaid : Prop := holdingActsRow.holds Tryz.pinned (OpenSpec.ofChange holdingActsSpec)

/-- ITS FALSE NEIGHBOUR: 'it returns false'. Refute it at one input. -/
def holdingActsWrong : ChangeSpec := { name := "holdingActs", fn := fun _ => fun
  | [d] => { results := [.lit (.bool false)], args := [d] }
  | _ => none }
def HoldingActsWrongFalsely : Prop := holdingActsRow.holds Tryz.pinned (OpenSpec.ofChange holdingActsWrong)

/-- 'tallagelaw24.ExitCovers': WHATEVER THE INPUT: true; the input reads as it did. -/
def exitCoversSpec : ChangeSpec := { name := "exitCovers", fn := fun _ => fun
  | [d1, d2] => { results := [.lit (.bool true)], args := [d1, d2] }
  | _ => none }
def exitCoversRow : OpenClaim := { program := "ytpojljieakdgiaagreat", sum := "7ac6615ab9c339679d73788b721c180d6b99c47650a72238120ca7a011961cf4", func := "tallage/tallagelaw24.ExitCovers", spec := "exitCovers", inPlace := ["internal/abi.NoEscape", "internal/bytealg.abigen_runtime_cmpstring", "slices.overlaps[string]", "slices.overlaps[tallage/store.block]"], unfollowed := true, recurses := true, apart := false }
def ExitCoversSaid : Prop := exitCoversRow.holds Tryz.pinned (OpenSpec.ofChange exitCoversSpec)

/-- ITS FALSE NEIGHBOUR: 'it returns false'. Refute it at one input. -/
def exitCoversWrong : ChangeSpec := { name := "exitCovers", fn := fun _ => fun
  | [d1, d2] => { results := [.lit (.bool false)], args := [d1, d2] }
  | _ => none }
def ExitCoversWrongFalsely : Prop := exitCoversRow.holds Tryz.pinned (OpenSpec.ofChange exitCoversWrong)

/-- 'tallagelaw24.ExitNone': WHATEVER THE INPUT: true; the input reads as it did. -/
def exitNoneSpec : ChangeSpec := { name := "exitNone", fn := fun _ => fun
  | [d] => { results := [.lit (.bool true)], args := [d] }
  | _ => none }
def exitNoneRow : OpenClaim := { program := "ytpojljieakdgiaagreat", sum := "7ac6615ab9c339679d73788b721c180d6b99c47650a72238120ca7a011961cf4", func := "tallage/tallagelaw24.ExitNone", spec := "exitNone", inPlace := ["internal/abi.NoEscape", "internal/bytealg.abigen_runtime_cmpstring", "slices.overlaps[string]", "slices.overlaps[tallage/store.block]"], unfollowed := true, recurses := true, apart := false }
def ExitNoneSaid : Prop := exitNoneRow.holds Tryz.pinned (OpenSpec.ofChange exitNoneSpec)

/-- ITS FALSE NEIGHBOUR: 'it returns false'. Refute it at one input. -/
def exitNoneWrong : ChangeSpec := { name := "exitNone", fn := fun _ => fun
  | [d] => { results := [.lit (.bool false)], args := [d] }
  | _ => none }
def ExitNoneWrongFalsely : Prop := exitNoneRow.holds Tryz.pinned (OpenSpec.ofChange exitNoneWrong)

/-- 'tallagelaw24.ExitActs': WHATEVER THE INPUT: true; the input reads as it did. -/
def exitActsSpec : ChangeSpec := { name := "exitActs", fn := fun _ => fun
  | [d] => { results := [.lit (.bool true)], args := [d] }
  | _ => none }
def exitActsRow : OpenClaim := { program := "ytpojljieakdgiaagreat", sum := "7ac6615ab9c339679d73788b721c180d6b99c47650a72238120ca7a011961cf4", func := "tallage/tallagelaw24.ExitActs", spec := "exitActs", inPlace := ["internal/abi.NoEscape", "internal/bytealg.abigen_runtime_cmpstring", "slices.overlaps[string]", "slices.overlaps[tallage/store.block]"], unfollowed := true, recurses := true, apart := false }
def ExitActsSaid : Prop := exitActsRow.holds Tryz.pinned (OpenSpec.ofChange exitActsSpec)

/-- ITS FALSE NEIGHBOUR: 'it returns false'. Refute it at one input. -/
def exitActsWrong : ChangeSpec := { name := "exitActs", fn := fun _ => fun
  | [d] => { results := [.lit (.bool false)], args := [d] }
  | _ => none }
def ExitActsWrongFalsely : Prop := exitActsRow.holds Tryz.pinned (OpenSpec.ofChange exitActsWrong)

/- THE SECOND FORM. 'bulk': how many values and letters a reading holds, each counted each time it is reached (what is shared counts as often as it is met; a slice's spare places count too). A statement '..UptoSaid' is the law's where the arguments, and the package variables that the reading takes, are together of bulk at most 1048576: NARROWER than '..Said'. Prove '..Said' where nothing that the law and all that it calls make is longer than what came in: it says more and counts as full. Else prove '..UptoSaid'. A law counts once. -/
mutual
def uptoBulk {H : Type} : DataW H → Nat
  | .lit (.string bytes) => bytes.length + 1
  | .lit _ => 1
  | .nil => 1
  | .ptr d => uptoBulk d + 1
  | .slice elems spare => uptoBulkAll elems + uptoBulkAll spare + 1
  | .agg parts => uptoBulkAll parts + 1
  | .iface _ d => uptoBulk d + 1
  | .map entries => uptoBulkEntries entries + 1
  | .held _ => 1
def uptoBulkAll {H : Type} : List (DataW H) → Nat
  | [] => 0
  | d :: r => uptoBulk d + uptoBulkAll r
def uptoBulkEntries {H : Type} : List (Lit × DataW H) → Nat
  | [] => 0
  | x :: r => uptoBulkEntry x + uptoBulkEntries r
def uptoBulkEntry {H : Type} : Lit × DataW H → Nat
  | (.string bytes, d) => bytes.length + uptoBulk d + 1
  | (_, d) => uptoBulk d + 1
 end
def uptoSmall : (H : Type) → List (DataW H) → Bool := fun _ ds => decide (uptoBulkAll ds ≤ 1048576)
def OpenSpec.upto (s : _root_.Go.ChangeSpec) : _root_.Go.OpenSpec := { _root_.Go.OpenSpec.ofChange s with cond := some uptoSmall }

/-- 'tallagelaw23.HoldingCovers', WHERE WHAT IT READS IS OF BULK AT MOST 1048576: true; the input reads as it did. -/
def holdingCoversUptoRow : OpenClaim := { program := "ytpojljieakdgiaagreat", sum := "7ac6615ab9c339679d73788b721c180d6b99c47650a72238120ca7a011961cf4", func := "tallage/tallagelaw23.HoldingCovers", spec := "holdingCovers", inPlace := ["internal/bytealg.abigen_runtime_cmpstring", "slices.overlaps[string]", "slices.overlaps[tallage/store.block]", "internal/abi.NoEscape"], unfollowed := true, recurses := true, apart := false, narrowed := true }
def HoldingCoversUptoSaid : Prop := holdingCoversUptoRow.holds Tryz.pinned (OpenSpec.upto holdingCoversSpec)

/-- 'tallagelaw24.ExitPays', WHERE WHAT IT READS IS OF BULK AT MOST 1048576: true; the input reads as it did. -/
def exitPaysUptoRow : OpenClaim := { program := "ytpojljieakdgiaagreat", sum := "7ac6615ab9c339679d73788b721c180d6b99c47650a72238120ca7a011961cf4", func := "tallage/tallagelaw24.ExitPays", spec := "exitPays", inPlace := ["internal/abi.NoEscape", "internal/bytealg.abigen_runtime_cmpstring", "slices.overlaps[string]", "slices.overlaps[tallage/store.block]"], unfollowed := true, recurses := true, apart := false, narrowed := true }
def ExitPaysUptoSaid : Prop := exitPaysUptoRow.holds Tryz.pinned (OpenSpec.upto exitPaysSpec)

/-- 'tallagelaw23.HoldingUndone', WHERE WHAT IT READS IS OF BULK AT MOST 1048576: true; the input reads as it did. -/
def holdingUndoneUptoRow : OpenClaim := { program := "ytpojljieakdgiaagreat", sum := "7ac6615ab9c339679d73788b721c180d6b99c47650a72238120ca7a011961cf4", func := "tallage/tallagelaw23.HoldingUndone", spec := "holdingUndone", inPlace := ["internal/bytealg.abigen_runtime_cmpstring", "slices.overlaps[string]", "slices.overlaps[tallage/store.block]", "internal/abi.NoEscape"], unfollowed := true, recurses := true, apart := false, narrowed := true }
def HoldingUndoneUptoSaid : Prop := holdingUndoneUptoRow.holds Tryz.pinned (OpenSpec.upto holdingUndoneSpec)

/-- 'tallagelaw23.HoldingNone', WHERE WHAT IT READS IS OF BULK AT MOST 1048576: true; the input reads as it did. -/
def holdingNoneUptoRow : OpenClaim := { program := "ytpojljieakdgiaagreat", sum := "7ac6615ab9c339679d73788b721c180d6b99c47650a72238120ca7a011961cf4", func := "tallage/tallagelaw23.HoldingNone", spec := "holdingNone", inPlace := ["internal/bytealg.abigen_runtime_cmpstring", "slices.overlaps[string]", "slices.overlaps[tallage/store.block]", "internal/abi.NoEscape"], unfollowed := true, recurses := true, apart := false, narrowed := true }
def HoldingNoneUptoSaid : Prop := holdingNoneUptoRow.holds Tryz.pinned (OpenSpec.upto holdingNoneSpec)

/-- 'tallagelaw23.HoldingActs', WHERE WHAT IT READS IS OF BULK AT MOST 1048576: true; the input reads as it did. -/
def holdingActsUptoRow : OpenClaim := { program := "ytpojljieakdgiaagreat", sum := "7ac6615ab9c339679d73788b721c180d6b99c47650a72238120ca7a011961cf4", func := "tallage/tallagelaw23.HoldingActs", spec := "holdingActs", inPlace := ["internal/bytealg.abigen_runtime_cmpstring", "slices.overlaps[string]", "slices.overlaps[tallage/store.block]", "internal/abi.NoEscape"], unfollowed := true, recurses := true, apart := false, narrowed := true }
def HoldingActsUptoSaid : Prop := holdingActsUptoRow.holds Tryz.pinned (OpenSpec.upto holdingActsSpec)

/-- 'tallagelaw24.ExitCovers', WHERE WHAT IT READS IS OF BULK AT MOST 1048576: true; the input reads as it did. -/
def exitCoversUptoRow : OpenClaim := { program := "ytpojljieakdgiaagreat", sum := "7ac6615ab9c339679d73788b721c180d6b99c47650a72238120ca7a011961cf4", func := "tallage/tallagelaw24.ExitCovers", spec := "exitCovers", inPlace := ["internal/abi.NoEscape", "internal/bytealg.abigen_runtime_cmpstring", "slices.overlaps[string]", "slices.overlaps[tallage/store.block]"], unfollowed := true, recurses := true, apart := false, narrowed := true }
def ExitCoversUptoSaid : Prop := exitCoversUptoRow.holds Tryz.pinned (OpenSpec.upto exitCoversSpec)

/-- 'tallagelaw24.ExitNone', WHERE WHAT IT READS IS OF BULK AT MOST 1048576: true; the input reads as it did. -/
def exitNoneUptoRow : OpenClaim := { program := "ytpojljieakdgiaagreat", sum := "7ac6615ab9c339679d73788b721c180d6b99c47650a72238120ca7a011961cf4", func := "tallage/tallagelaw24.ExitNone", spec := "exitNone", inPlace := ["internal/abi.NoEscape", "internal/bytealg.abigen_runtime_cmpstring", "slices.overlaps[string]", "slices.overlaps[tallage/store.block]"], unfollowed := true, recurses := true, apart := false, narrowed := true }
def ExitNoneUptoSaid : Prop := exitNoneUptoRow.holds Tryz.pinned (OpenSpec.upto exitNoneSpec)

/-- 'tallagelaw24.ExitActs', WHERE WHAT IT READS IS OF BULK AT MOST 1048576: true; the input reads as it did. -/
def exitActsUptoRow : OpenClaim := { program := "ytpojljieakdgiaagreat", sum := "7ac6615ab9c339679d73788b721c180d6b99c47650a72238120ca7a011961cf4", func := "tallage/tallagelaw24.ExitActs", spec := "exitActs", inPlace := ["internal/abi.NoEscape", "internal/bytealg.abigen_runtime_cmpstring", "slices.overlaps[string]", "slices.overlaps[tallage/store.block]"], unfollowed := true, recurses := true, apart := false, narrowed := true }
def ExitActsUptoSaid : Prop := exitActsUptoRow.holds Tryz.pinned (OpenSpec.upto exitActsSpec)

end Rows
end Go.Proofs.YtpojljieakdgiaaGreat
