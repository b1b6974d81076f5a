/-
  No cell of these rows narrows 'for every input' (looked for: loops, veiled, ifaces, maps, wideKeys, modest, calm, conditions, laid).
  DERIVED. THE GIVEN ROWS OF THIS SEAT. 3 by the template 'for every input the law returns true; each argument reads behind the call as it read before'; 0 by the template 'total and deterministic' (their statements: YtbljaikifgpflaaTotals.lean).
  GIVEN WITH THE SEED: the statements are not yours to turn. If you find one false, say at which input.
  Laid BY PROGRAM, IN A SANDBOX (cutbox-rows.mjs): the forced cells as the released guide's own fill.sh prints them over the translation ba96e28d21378efc… (all of the seat's roots in one cut). By AI agents, Wed Nov 11 2026. No macro, syntax, notation, axiom, sorry.
-/
import Derived.Test.YtbljaikifgpflaaChecked
import GoSem.Claim
import GoSem.ClaimJoined
import GoSem.ClaimMapViews
import Derived.JoinedTies
import Derived.KernelRfl
namespace Go.Proofs.Ytbljaikifgpflaa
/- THE CELL 'sum', in the pinned program and in every row, IS THE sha256 OF THE DUMP (.gsa) THAT YtbljaikifgpflaaProg.lean LOADS. Nothing in Lean hashes anything: it is a label: what it is worth is what the hold of that sum in a sandbox is worth. -/
noncomputable def Try.pinned : Pinned := { name := "ytbljaikifgpflaa", sum := "ba96e28d21378efca00bcaa5370a30826d32b939ab43c150215ab355cb667b6c", checked := Try.checked }
namespace Rows
def none {H : Type} : Left H := { results := [], args := [] }

/-- 'tallagelaw21.RosterRight': WHATEVER THE INPUT: true; the input reads as it did. -/
def rosterRightSpec : ChangeSpec := { name := "rosterRight", fn := fun _ => fun
  | [d] => { results := [.lit (.bool true)], args := [d] }
  | _ => none }
def rosterRightRow : OpenClaim := { program := "ytbljaikifgpflaa", sum := "ba96e28d21378efca00bcaa5370a30826d32b939ab43c150215ab355cb667b6c", func := "tallage/tallagelaw21.RosterRight", spec := "rosterRight", inPlace := ["internal/abi.NoEscape", "internal/bytealg.abigen_runtime_cmpstring", "slices.overlaps[string]", "slices.overlaps[tallage/store.block]"], unfollowed := true, recurses := true, apart := false }
def RosterRightSaid : Prop := rosterRightRow.holds Try.pinned (OpenSpec.ofChange rosterRightSpec)

/-- ITS FALSE NEIGHBOUR: 'it returns false'. Refute it at one input. -/
def rosterRightWrong : ChangeSpec := { name := "rosterRight", fn := fun _ => fun
  | [d] => { results := [.lit (.bool false)], args := [d] }
  | _ => none }
def RosterRightWrongFalsely : Prop := rosterRightRow.holds Try.pinned (OpenSpec.ofChange rosterRightWrong)

/-- 'tallagelaw21.RosterNone': WHATEVER THE INPUT: true; the input reads as it did. -/
def rosterNoneSpec : ChangeSpec := { name := "rosterNone", fn := fun _ => fun
  | [d] => { results := [.lit (.bool true)], args := [d] }
  | _ => none }
def rosterNoneRow : OpenClaim := { program := "ytbljaikifgpflaa", sum := "ba96e28d21378efca00bcaa5370a30826d32b939ab43c150215ab355cb667b6c", func := "tallage/tallagelaw21.RosterNone", spec := "rosterNone", inPlace := ["internal/abi.NoEscape", "internal/bytealg.abigen_runtime_cmpstring", "slices.overlaps[string]", "slices.overlaps[tallage/store.block]"], unfollowed := true, recurses := true, apart := false }
def RosterNoneSaid : Prop := rosterNoneRow.holds Try.pinned (OpenSpec.ofChange rosterNoneSpec)

/-- ITS FALSE NEIGHBOUR: 'it returns false'. Refute it at one input. -/
def rosterNoneWrong : ChangeSpec := { name := "rosterNone", fn := fun _ => fun
  | [d] => { results := [.lit (.bool false)], args := [d] }
  | _ => none }
def RosterNoneWrongFalsely : Prop := rosterNoneRow.holds Try.pinned (OpenSpec.ofChange rosterNoneWrong)

/-- 'tallagelaw21.RosterActs': WHATEVER THE INPUT: true; the input reads as it did. -/
def rosterActsSpec : ChangeSpec := { name := "rosterActs", fn := fun _ => fun
  | [d] => { results := [.lit (.bool true)], args := [d] }
  | _ => none }
def rosterActsRow : OpenClaim := { program := "ytbljaikifgpflaa", sum := "ba96e28d21378efca00bcaa5370a30826d32b939ab43c150215ab355cb667b6c", func := "tallage/tallagelaw21.RosterActs", spec := "rosterActs", inPlace := ["internal/abi.NoEscape", "internal/bytealg.abigen_runtime_cmpstring", "slices.overlaps[string]", "slices.overlaps[tallage/store.block]"], unfollowed := true, recurses := true, apart := false }
def RosterActsSaid : Prop := rosterActsRow.holds Try.pinned (OpenSpec.ofChange rosterActsSpec)

/-- ITS FALSE NEIGHBOUR: 'it returns false'. Refute it at one input. -/
def rosterActsWrong : ChangeSpec := { name := "rosterActs", fn := fun _ => fun
  | [d] => { results := [.lit (.bool false)], args := [d] }
  | _ => none }
def RosterActsWrongFalsely : Prop := rosterActsRow.holds Try.pinned (OpenSpec.ofChange rosterActsWrong)

/- THE SECOND FORM. 'bulk': how many values and letters a reading holds, each counted each time it is reached (what is shared counts as often as it is met; a slice's spare places count too). A statement '..UptoSaid' is the law's where the arguments, and the package variables that the reading takes, are together of bulk at most 1048576: NARROWER than '..Said'. Prove '..Said' where nothing that the law and all that it calls make is longer than what came in: it says more and counts as full. Else prove '..UptoSaid'. A law counts once. -/
mutual
def uptoBulk {H : Type} : DataW H → Nat
  | .lit (.string bytes) => bytes.length + 1
  | .lit _ => 1
  | .nil => 1
  | .ptr d => uptoBulk d + 1
  | .slice elems spare => uptoBulkAll elems + uptoBulkAll spare + 1
  | .agg parts => uptoBulkAll parts + 1
  | .iface _ d => uptoBulk d + 1
  | .map entries => uptoBulkEntries entries + 1
  | .held _ => 1
def uptoBulkAll {H : Type} : List (DataW H) → Nat
  | [] => 0
  | d :: r => uptoBulk d + uptoBulkAll r
def uptoBulkEntries {H : Type} : List (Lit × DataW H) → Nat
  | [] => 0
  | x :: r => uptoBulkEntry x + uptoBulkEntries r
def uptoBulkEntry {H : Type} : Lit × DataW H → Nat
  | (.string bytes, d) => bytes.length + uptoBulk d + 1
  | (_, d) => uptoBulk d + 1
 end
def uptoSmall : (H : Type) → List (DataW H) → Bool := fun _ ds => decide (uptoBulkAll ds ≤ 1048576)
def OpenSpec.upto (s : _root_.Go.ChangeSpec) : _root_.Go.OpenSpec := { _root_.Go.OpenSpec.ofChange s with cond := some uptoSmall }

/-- 'tallagelaw21.RosterRight', WHERE WHAT IT READS IS OF BULK AT MOST 1048576: true; the input reads as it did. -/
def rosterRightUptoRow : OpenClaim := { program := "ytbljaikifgpflaa", sum := "ba96e28d21378efca00bcaa5370a30826d32b939ab43c150215ab355cb667b6c", func := "tallage/tallagelaw21.RosterRight", spec := "rosterRight", inPlace := ["internal/abi.NoEscape", "internal/bytealg.abigen_runtime_cmpstring", "slices.overlaps[string]", "slices.overlaps[tallage/store.block]"], unfollowed := true, recurses := true, apart := false, narrowed := true }
def RosterRightUptoSaid : Prop := rosterRightUptoRow.holds Try.pinned (OpenSpec.upto rosterRightSpec)

/-- 'tallagelaw21.RosterNone', WHERE WHAT IT READS IS OF BULK AT MOST 1048576: true; the input reads as it did. -/
def rosterNoneUptoRow : OpenClaim := { program := "ytbljaikifgpflaa", sum := "ba96e28d21378efca00bcaa5370a30826d32b939ab43c150215ab355cb667b6c", func := "tallage/tallagelaw21.RosterNone", spec := "rosterNone", inPlace := ["internal/abi.NoEscape", "internal/bytealg.abigen_runtime_cmpstring", "slices.overlaps[string]", "slices.overlaps[tallage/store.block]"], unfollowed := true, recurses := true, apart := false, narrowed := true }
def RosterNoneUptoSaid : Prop := rosterNoneUptoRow.holds Try.pinned (OpenSpec.upto rosterNoneSpec)

/-- 'tallagelaw21.RosterActs', WHERE WHAT IT READS IS OF BULK AT MOST 1048576: true; the input reads as it did. -/
def rosterActsUptoRow : OpenClaim := { program := "ytbljaikifgpflaa", sum := "ba96e28d21378efca00bcaa5370a30826d32b939ab43c150215ab355cb667b6c", func := "tallage/tallagelaw21.RosterActs", spec := "rosterActs", inPlace := ["internal/abi.NoEscape", "internal/bytealg.abigen_runtime_cmpstring", "slices.overlaps[string]", "slices.overlaps[tallage/store.block]"], unfollowed := true, recurses := true, apart := false, narrowed := true }
def RosterActsUptoSaid : Prop := rosterActsUptoRow.holds Try.pinned (OpenSpec.upto rosterActsSpec)

end Rows
end Go.Proofs.Ytbljaikifgpflaa
