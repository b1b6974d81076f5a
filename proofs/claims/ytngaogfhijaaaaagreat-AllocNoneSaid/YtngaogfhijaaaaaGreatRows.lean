/-
  No cell of these rows narrows 'for every input' (looked for: loops, veiled, ifaces, maps, wideKeys, modest, calm, conditions, laid).
  DERIVED. THE GIVEN ROWS OF THIS SEAT. 4 by the template 'for every input the law returns true; each argument reads behind the call as it read before'; 0 by the template 'total and deterministic' (their statements: YtngaogfhijaaaaaGreatTotals.lean).
  GIVEN WITH THE SEED: the statements are not yours to turn. If you find one false, say at which input.
  Laid BY PROGRAM, IN A SANDBOX (cutbox-rows.mjs): the forced cells as the released guide's own fill.sh prints them over the translation 4a649f3164e77f29… (all of the seat's roots in one cut). By AI agents, Wed Nov 11 2026. No macro, syntax, notation, axiom, sorry.
-/
import Derived.Test.YtngaogfhijaaaaaGreatChecked
import GoSem.Claim
import GoSem.ClaimJoined
import GoSem.ClaimMapViews
import Derived.JoinedTies
import Derived.KernelRfl
namespace Go.Proofs.YtngaogfhijaaaaaGreat
/- THE CELL 'sum', in the pinned program and in every row, IS THE sha256 OF THE DUMP (.gsa) THAT YtngaogfhijaaaaaGreatProg.lean LOADS. Nothing in Lean hashes anything: it is a label: what it is worth is what the hold of that sum in a sandbox is worth. -/
noncomputable def Tryz.pinned : Pinned := { name := "ytngaogfhijaaaaagreat", sum := "4a649f3164e77f2949e8d0e25d9ef8a377f33538e76164e2a409efcda2879232", checked := Tryz.checked }
namespace Rows
def none {H : Type} : Left H := { results := [], args := [] }

/-- 'tallagelaw27.MemberTails': WHATEVER THE INPUT: true; the input reads as it did. -/
def memberTailsSpec : ChangeSpec := { name := "memberTails", fn := fun _ => fun
  | [d1, d2] => { results := [.lit (.bool true)], args := [d1, d2] }
  | _ => none }
def memberTailsRow : OpenClaim := { program := "ytngaogfhijaaaaagreat", sum := "4a649f3164e77f2949e8d0e25d9ef8a377f33538e76164e2a409efcda2879232", func := "tallage/tallagelaw27.MemberTails", spec := "memberTails", inPlace := ["internal/abi.NoEscape", "internal/bytealg.abigen_runtime_cmpstring", "slices.overlaps[string]", "slices.overlaps[tallage/store.block]"], unfollowed := true, recurses := true, apart := false }
def MemberTailsSaid : Prop := memberTailsRow.holds Tryz.pinned (OpenSpec.ofChange memberTailsSpec)

/-- ITS FALSE NEIGHBOUR: 'it returns false'. Refute it at one input. -/
def memberTailsWrong : ChangeSpec := { name := "memberTails", fn := fun _ => fun
  | [d1, d2] => { results := [.lit (.bool false)], args := [d1, d2] }
  | _ => none }
def MemberTailsWrongFalsely : Prop := memberTailsRow.holds Tryz.pinned (OpenSpec.ofChange memberTailsWrong)

/-- 'tallagelaw27.MemberNone': WHATEVER THE INPUT: true; the input reads as it did. -/
def memberNoneSpec : ChangeSpec := { name := "memberNone", fn := fun _ => fun
  | [d] => { results := [.lit (.bool true)], args := [d] }
  | _ => none }
def memberNoneRow : OpenClaim := { program := "ytngaogfhijaaaaagreat", sum := "4a649f3164e77f2949e8d0e25d9ef8a377f33538e76164e2a409efcda2879232", func := "tallage/tallagelaw27.MemberNone", spec := "memberNone", inPlace := ["internal/abi.NoEscape", "internal/bytealg.abigen_runtime_cmpstring", "slices.overlaps[string]", "slices.overlaps[tallage/store.block]"], unfollowed := true, recurses := true, apart := false }
def MemberNoneSaid : Prop := memberNoneRow.holds Tryz.pinned (OpenSpec.ofChange memberNoneSpec)

/-- ITS FALSE NEIGHBOUR: 'it returns false'. Refute it at one input. -/
def memberNoneWrong : ChangeSpec := { name := "memberNone", fn := fun _ => fun
  | [d] => { results := [.lit (.bool false)], args := [d] }
  | _ => none }
def MemberNoneWrongFalsely : Prop := memberNoneRow.holds Tryz.pinned (OpenSpec.ofChange memberNoneWrong)

/-- 'tallagelaw27.MemberActs': WHATEVER THE INPUT: true; the input reads as it did. -/
def memberActsSpec : ChangeSpec := { name := "memberActs", fn := fun _ => fun
  | [d1, d2] => { results := [.lit (.bool true)], args := [d1, d2] }
  | _ => none }
def memberActsRow : OpenClaim := { program := "ytngaogfhijaaaaagreat", sum := "4a649f3164e77f2949e8d0e25d9ef8a377f33538e76164e2a409efcda2879232", func := "tallage/tallagelaw27.MemberActs", spec := "memberActs", inPlace := ["internal/abi.NoEscape", "internal/bytealg.abigen_runtime_cmpstring", "slices.overlaps[string]", "slices.overlaps[tallage/store.block]"], unfollowed := true, recurses := true, apart := false }
def MemberActsSaid : Prop := memberActsRow.holds Tryz.pinned (OpenSpec.ofChange memberActsSpec)

/-- ITS FALSE NEIGHBOUR: 'it returns false'. Refute it at one input. -/
def memberActsWrong : ChangeSpec := { name := "memberActs", fn := fun _ => fun
  | [d1, d2] => { results := [.lit (.bool false)], args := [d1, d2] }
  | _ => none }
def MemberActsWrongFalsely : Prop := memberActsRow.holds Tryz.pinned (OpenSpec.ofChange memberActsWrong)

/-- 'tallagelaw29.AllocNone': WHATEVER THE INPUT: true; the input reads as it did. -/
def allocNoneSpec : ChangeSpec := { name := "allocNone", fn := fun _ => fun
  | [d] => { results := [.lit (.bool true)], args := [d] }
  | _ => none }
def allocNoneRow : OpenClaim := { program := "ytngaogfhijaaaaagreat", sum := "4a649f3164e77f2949e8d0e25d9ef8a377f33538e76164e2a409efcda2879232", func := "tallage/tallagelaw29.AllocNone", spec := "allocNone", inPlace := ["internal/abi.NoEscape", "internal/bytealg.abigen_runtime_cmpstring", "slices.overlaps[string]", "slices.overlaps[tallage/store.block]"], unfollowed := true, recurses := true, apart := false }
def AllocNoneSaid : Prop := allocNoneRow.holds Tryz.pinned (OpenSpec.ofChange allocNoneSpec)

/-- ITS FALSE NEIGHBOUR: 'it returns false'. Refute it at one input. -/
def allocNoneWrong : ChangeSpec := { name := "allocNone", fn := fun _ => fun
  | [d] => { results := [.lit (.bool false)], args := [d] }
  | _ => none }
def AllocNoneWrongFalsely : Prop := allocNoneRow.holds Tryz.pinned (OpenSpec.ofChange allocNoneWrong)

/- THE SECOND FORM. 'bulk': how many values and letters a reading holds, each counted each time it is reached (what is shared counts as often as it is met; a slice's spare places count too). A statement '..UptoSaid' is the law's where the arguments, and the package variables that the reading takes, are together of bulk at most 1048576: NARROWER than '..Said'. Prove '..Said' where nothing that the law and all that it calls make is longer than what came in: it says more and counts as full. Else prove '..UptoSaid'. A law counts once. -/
mutual
def uptoBulk {H : Type} : DataW H → Nat
  | .lit (.string bytes) => bytes.length + 1
  | .lit _ => 1
  | .nil => 1
  | .ptr d => uptoBulk d + 1
  | .slice elems spare => uptoBulkAll elems + uptoBulkAll spare + 1
  | .agg parts => uptoBulkAll parts + 1
  | .iface _ d => uptoBulk d + 1
  | .map entries => uptoBulkEntries entries + 1
  | .held _ => 1
def uptoBulkAll {H : Type} : List (DataW H) → Nat
  | [] => 0
  | d :: r => uptoBulk d + uptoBulkAll r
def uptoBulkEntries {H : Type} : List (Lit × DataW H) → Nat
  | [] => 0
  | x :: r => uptoBulkEntry x + uptoBulkEntries r
def uptoBulkEntry {H : Type} : Lit × DataW H → Nat
  | (.string bytes, d) => bytes.length + uptoBulk d + 1
  | (_, d) => uptoBulk d + 1
 end
def uptoSmall : (H : Type) → List (DataW H) → Bool := fun _ ds => decide (uptoBulkAll ds ≤ 1048576)
def OpenSpec.upto (s : _root_.Go.ChangeSpec) : _root_.Go.OpenSpec := { _root_.Go.OpenSpec.ofChange s with cond := some uptoSmall }

/-- 'tallagelaw27.MemberTails', WHERE WHAT IT READS IS OF BULK AT MOST 1048576: true; the input reads as it did. -/
def memberTailsUptoRow : OpenClaim := { program := "ytngaogfhijaaaaagreat", sum := "4a649f3164e77f2949e8d0e25d9ef8a377f33538e76164e2a409efcda2879232", func := "tallage/tallagelaw27.MemberTails", spec := "memberTails", inPlace := ["internal/abi.NoEscape", "internal/bytealg.abigen_runtime_cmpstring", "slices.overlaps[string]", "slices.overlaps[tallage/store.block]"], unfollowed := true, recurses := true, apart := false, narrowed := true }
def MemberTailsUptoSaid : Prop := memberTailsUptoRow.holds Tryz.pinned (OpenSpec.upto memberTailsSpec)

/-- 'tallagelaw27.MemberNone', WHERE WHAT IT READS IS OF BULK AT MOST 1048576: true; the input reads as it did. -/
def memberNoneUptoRow : OpenClaim := { program := "ytngaogfhijaaaaagreat", sum := "4a649f3164e77f2949e8d0e25d9ef8a377f33538e76164e2a409efcda2879232", func := "tallage/tallagelaw27.MemberNone", spec := "memberNone", inPlace := ["internal/abi.NoEscape", "internal/bytealg.abigen_runtime_cmpstring", "slices.overlaps[string]", "slices.overlaps[tallage/store.block]"], unfollowed := true, recurses := true, apart := false, narrowed := true }
def MemberNoneUptoSaid : Prop := memberNoneUptoRow.holds Tryz.pinned (OpenSpec.upto memberNoneSpec)

/-- 'tallagelaw27.MemberActs', WHERE WHAT IT READS IS OF BULK AT MOST 1048576: true; the input reads as it did. -/
def memberActsUptoRow : OpenClaim := { program := "ytngaogfhijaaaaagreat", sum := "4a649f3164e77f2949e8d0e25d9ef8a377f33538e76164e2a409efcda2879232", func := "tallage/tallagelaw27.MemberActs", spec := "memberActs", inPlace := ["internal/abi.NoEscape", "internal/bytealg.abigen_runtime_cmpstring", "slices.overlaps[string]", "slices.overlaps[tallage/store.block]"], unfollowed := true, recurses := true, apart := false, narrowed := true }
def MemberActsUptoSaid : Prop := memberActsUptoRow.holds Tryz.pinned (OpenSpec.upto memberActsSpec)

/-- 'tallagelaw29.AllocNone', WHERE WHAT IT READS IS OF BULK AT MOST 1048576: true; the input reads as it did. -/
def allocNoneUptoRow : OpenClaim := { program := "ytngaogfhijaaaaagreat", sum := "4a649f3164e77f2949e8d0e25d9ef8a377f33538e76164e2a409efcda2879232", func := "tallage/tallagelaw29.AllocNone", spec := "allocNone", inPlace := ["internal/abi.NoEscape", "internal/bytealg.abigen_runtime_cmpstring", "slices.overlaps[string]", "slices.overlaps[tallage/store.block]"], unfollowed := true, recurses := true, apart := false, narrowed := true }
def AllocNoneUptoSaid : Prop := allocNoneUptoRow.holds Tryz.pinned (OpenSpec.upto allocNoneSpec)

end Rows
end Go.Proofs.YtngaogfhijaaaaaGreat
