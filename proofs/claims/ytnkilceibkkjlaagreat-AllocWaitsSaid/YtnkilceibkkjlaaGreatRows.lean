/-
  No cell of these rows narrows 'for every input' (looked for: loops, veiled, ifaces, maps, wideKeys, modest, calm, conditions, laid).
  DERIVED. THE GIVEN ROWS OF THIS SEAT. 7 by the template 'for every input the law returns true; each argument reads behind the call as it read before'; 0 by the template 'total and deterministic' (their statements: YtnkilceibkkjlaaGreatTotals.lean).
  GIVEN WITH THE SEED: the statements are not yours to turn. If you find one false, say at which input.
  Laid BY PROGRAM, IN A SANDBOX (cutbox-rows.mjs): the forced cells as the released guide's own fill.sh prints them over the translation 757499ed2883b083… (all of the seat's roots in one cut). By AI agents, Wed Nov 11 2026. No macro, syntax, notation, axiom, sorry.
-/
import Derived.Test.YtnkilceibkkjlaaGreatChecked
import GoSem.Claim
import GoSem.ClaimJoined
import GoSem.ClaimMapViews
import Derived.JoinedTies
import Derived.KernelRfl
namespace Go.Proofs.YtnkilceibkkjlaaGreat
/- THE CELL 'sum', in the pinned program and in every row, IS THE sha256 OF THE DUMP (.gsa) THAT YtnkilceibkkjlaaGreatProg.lean LOADS. Nothing in Lean hashes anything: it is a label: what it is worth is what the hold of that sum in a sandbox is worth. -/
noncomputable def Tryz.pinned : Pinned := { name := "ytnkilceibkkjlaagreat", sum := "757499ed2883b0834bf657b8284f276b9d62bffd644f4007a76c94776d42f1a5", checked := Tryz.checked }
namespace Rows
def none {H : Type} : Left H := { results := [], args := [] }

/-- 'tallagelaw24.ExitPays': WHATEVER THE INPUT: true; the input reads as it did. -/
def exitPaysSpec : ChangeSpec := { name := "exitPays", fn := fun _ => fun
  | [d1, d2, d3] => { results := [.lit (.bool true)], args := [d1, d2, d3] }
  | _ => none }
def exitPaysRow : OpenClaim := { program := "ytnkilceibkkjlaagreat", sum := "757499ed2883b0834bf657b8284f276b9d62bffd644f4007a76c94776d42f1a5", func := "tallage/tallagelaw24.ExitPays", spec := "exitPays", inPlace := ["internal/abi.NoEscape", "internal/bytealg.abigen_runtime_cmpstring", "slices.overlaps[string]", "slices.overlaps[tallage/store.block]"], unfollowed := true, recurses := true, apart := false }
def ExitPaysSaid : Prop := exitPaysRow.holds Tryz.pinned (OpenSpec.ofChange exitPaysSpec)

/-- ITS FALSE NEIGHBOUR: 'it returns false'. Refute it at one input. -/
def exitPaysWrong : ChangeSpec := { name := "exitPays", fn := fun _ => fun
  | [d1, d2, d3] => { results := [.lit (.bool false)], args := [d1, d2, d3] }
  | _ => none }
def ExitPaysWrongFalsely : Prop := exitPaysRow.holds Tryz.pinned (OpenSpec.ofChange exitPaysWrong)

/-- 'tallagelaw29.AllocWaits': WHATEVER THE INPUT: true; the input reads as it did. -/
def allocWaitsSpec : ChangeSpec := { name := "allocWaits", fn := fun _ => fun
  | [d1, d2] => { results := [.lit (.bool true)], args := [d1, d2] }
  | _ => none }
def allocWaitsRow : OpenClaim := { program := "ytnkilceibkkjlaagreat", sum := "757499ed2883b0834bf657b8284f276b9d62bffd644f4007a76c94776d42f1a5", func := "tallage/tallagelaw29.AllocWaits", spec := "allocWaits", inPlace := ["internal/abi.NoEscape", "internal/bytealg.abigen_runtime_cmpstring", "slices.overlaps[string]", "slices.overlaps[tallage/store.block]"], unfollowed := true, recurses := true, apart := false }
def AllocWaitsSaid : Prop := allocWaitsRow.holds Tryz.pinned (OpenSpec.ofChange allocWaitsSpec)

/-- ITS FALSE NEIGHBOUR: 'it returns false'. Refute it at one input. -/
def allocWaitsWrong : ChangeSpec := { name := "allocWaits", fn := fun _ => fun
  | [d1, d2] => { results := [.lit (.bool false)], args := [d1, d2] }
  | _ => none }
def AllocWaitsWrongFalsely : Prop := allocWaitsRow.holds Tryz.pinned (OpenSpec.ofChange allocWaitsWrong)

/-- 'tallagelaw29.AllocAdds': WHATEVER THE INPUT: true; the input reads as it did. -/
def allocAddsSpec : ChangeSpec := { name := "allocAdds", fn := fun _ => fun
  | [d] => { results := [.lit (.bool true)], args := [d] }
  | _ => none }
def allocAddsRow : OpenClaim := { program := "ytnkilceibkkjlaagreat", sum := "757499ed2883b0834bf657b8284f276b9d62bffd644f4007a76c94776d42f1a5", func := "tallage/tallagelaw29.AllocAdds", spec := "allocAdds", inPlace := ["internal/abi.NoEscape", "internal/bytealg.abigen_runtime_cmpstring", "slices.overlaps[string]", "slices.overlaps[tallage/store.block]"], unfollowed := true, recurses := true, apart := false }
def AllocAddsSaid : Prop := allocAddsRow.holds Tryz.pinned (OpenSpec.ofChange allocAddsSpec)

/-- ITS FALSE NEIGHBOUR: 'it returns false'. Refute it at one input. -/
def allocAddsWrong : ChangeSpec := { name := "allocAdds", fn := fun _ => fun
  | [d] => { results := [.lit (.bool false)], args := [d] }
  | _ => none }
def AllocAddsWrongFalsely : Prop := allocAddsRow.holds Tryz.pinned (OpenSpec.ofChange allocAddsWrong)

/-- 'tallagelaw29.AllocActs': WHATEVER THE INPUT: true; the input reads as it did. -/
def allocActsSpec : ChangeSpec := { name := "allocActs", fn := fun _ => fun
  | [d] => { results := [.lit (.bool true)], args := [d] }
  | _ => none }
def allocActsRow : OpenClaim := { program := "ytnkilceibkkjlaagreat", sum := "757499ed2883b0834bf657b8284f276b9d62bffd644f4007a76c94776d42f1a5", func := "tallage/tallagelaw29.AllocActs", spec := "allocActs", inPlace := ["internal/abi.NoEscape", "internal/bytealg.abigen_runtime_cmpstring", "slices.overlaps[string]", "slices.overlaps[tallage/store.block]"], unfollowed := true, recurses := true, apart := false }
def AllocActsSaid : Prop := allocActsRow.holds Tryz.pinned (OpenSpec.ofChange allocActsSpec)

/-- ITS FALSE NEIGHBOUR: 'it returns false'. Refute it at one input. -/
def allocActsWrong : ChangeSpec := { name := "allocActs", fn := fun _ => fun
  | [d] => { results := [.lit (.bool false)], args := [d] }
  | _ => none }
def AllocActsWrongFalsely : Prop := allocActsRow.holds Tryz.pinned (OpenSpec.ofChange allocActsWrong)

/-- 'tallagelaw24.ExitCovers': WHATEVER THE INPUT: true; the input reads as it did. -/
def exitCoversSpec : ChangeSpec := { name := "exitCovers", fn := fun _ => fun
  | [d1, d2] => { results := [.lit (.bool true)], args := [d1, d2] }
  | _ => none }
def exitCoversRow : OpenClaim := { program := "ytnkilceibkkjlaagreat", sum := "757499ed2883b0834bf657b8284f276b9d62bffd644f4007a76c94776d42f1a5", func := "tallage/tallagelaw24.ExitCovers", spec := "exitCovers", inPlace := ["internal/abi.NoEscape", "internal/bytealg.abigen_runtime_cmpstring", "slices.overlaps[string]", "slices.overlaps[tallage/store.block]"], unfollowed := true, recurses := true, apart := false }
def ExitCoversSaid : Prop := exitCoversRow.holds Tryz.pinned (OpenSpec.ofChange exitCoversSpec)

/-- ITS FALSE NEIGHBOUR: 'it returns false'. Refute it at one input. -/
def exitCoversWrong : ChangeSpec := { name := "exitCovers", fn := fun _ => fun
  | [d1, d2] => { results := [.lit (.bool false)], args := [d1, d2] }
  | _ => none }
def ExitCoversWrongFalsely : Prop := exitCoversRow.holds Tryz.pinned (OpenSpec.ofChange exitCoversWrong)

/-- 'tallagelaw24.ExitNone': WHATEVER THE INPUT: true; the input reads as it did. -/
def exitNoneSpec : ChangeSpec := { name := "exitNone", fn := fun _ => fun
  | [d] => { results := [.lit (.bool true)], args := [d] }
  | _ => none }
def exitNoneRow : OpenClaim := { program := "ytnkilceibkkjlaagreat", sum := "757499ed2883b0834bf657b8284f276b9d62bffd644f4007a76c94776d42f1a5", func := "tallage/tallagelaw24.ExitNone", spec := "exitNone", inPlace := ["internal/abi.NoEscape", "internal/bytealg.abigen_runtime_cmpstring", "slices.overlaps[string]", "slices.overlaps[tallage/store.block]"], unfollowed := true, recurses := true, apart := false }
def ExitNoneSaid : Prop := exitNoneRow.holds Tryz.pinned (OpenSpec.ofChange exitNoneSpec)

/-- ITS FALSE NEIGHBOUR: 'it returns false'. Refute it at one input. -/
def exitNoneWrong : ChangeSpec := { name := "exitNone", fn := fun _ => fun
  | [d] => { results := [.lit (.bool false)], args := [d] }
  | _ => none }
def ExitNoneWrongFalsely : Prop := exitNoneRow.holds Tryz.pinned (OpenSpec.ofChange exitNoneWrong)

/-- 'tallagelaw24.ExitActs': WHATEVER THE INPUT: true; the input reads as it did. -/
def exitActsSpec : ChangeSpec := { name := "exitActs", fn := fun _ => fun
  | [d] => { results := [.lit (.bool true)], args := [d] }
  | _ => none }
def exitActsRow : OpenClaim := { program := "ytnkilceibkkjlaagreat", sum := "757499ed2883b0834bf657b8284f276b9d62bffd644f4007a76c94776d42f1a5", func := "tallage/tallagelaw24.ExitActs", spec := "exitActs", inPlace := ["internal/abi.NoEscape", "internal/bytealg.abigen_runtime_cmpstring", "slices.overlaps[string]", "slices.overlaps[tallage/store.block]"], unfollowed := true, recurses := true, apart := false }
def ExitActsSaid : Prop := exitActsRow.holds Tryz.pinned (OpenSpec.ofChange exitActsSpec)

/-- ITS FALSE NEIGHBOUR: 'it returns false'. Refute it at one input. -/
def exitActsWrong : ChangeSpec := { name := "exitActs", fn := fun _ => fun
  | [d] => { results := [.lit (.bool false)], args := [d] }
  | _ => none }
def ExitActsWrongFalsely : Prop := exitActsRow.holds Tryz.pinned (OpenSpec.ofChange exitActsWrong)

/- THE SECOND FORM. 'bulk': how many values and letters a reading holds, each counted each time it is reached (what is shared counts as often as it is met; a slice's spare places count too). A statement '..UptoSaid' is the law's where the arguments, and the package variables that the reading takes, are together of bulk at most 1048576: NARROWER than '..Said'. Prove '..Said' where nothing that the law and all that it calls make is longer than what came in: it says more and counts as full. Else prove '..UptoSaid'. A law counts once. -/
mutual
def uptoBulk {H : Type} : DataW H → Nat
  | .lit (.string bytes) => bytes.length + 1
  | .lit _ => 1
  | .nil => 1
  | .ptr d => uptoBulk d + 1
  | .slice elems spare => uptoBulkAll elems + uptoBulkAll spare + 1
  | .agg parts => uptoBulkAll parts + 1
  | .iface _ d => uptoBulk d + 1
  | .map entries => uptoBulkEntries entries + 1
  | .held _ => 1
def uptoBulkAll {H : Type} : List (DataW H) → Nat
  | [] => 0
  | d :: r => uptoBulk d + uptoBulkAll r
def uptoBulkEntries {H : Type} : List (Lit × DataW H) → Nat
  | [] => 0
  | x :: r => uptoBulkEntry x + uptoBulkEntries r
def uptoBulkEntry {H : Type} : Lit × DataW H → Nat
  | (.string bytes, d) => bytes.length + uptoBulk d + 1
  | (_, d) => uptoBulk d + 1
 end
def uptoSmall : (H : Type) → List (DataW H) → Bool := fun _ ds => decide (uptoBulkAll ds ≤ 1048576)
def OpenSpec.upto (s : _root_.Go.ChangeSpec) : _root_.Go.OpenSpec := { _root_.Go.OpenSpec.ofChange s with cond := some uptoSmall }

/-- 'tallagelaw24.ExitPays', WHERE WHAT IT READS IS OF BULK AT MOST 1048576: true; the input reads as it did. -/
def exitPaysUptoRow : OpenClaim := { program := "ytnkilceibkkjlaagreat", sum := "757499ed2883b0834bf657b8284f276b9d62bffd644f4007a76c94776d42f1a5", func := "tallage/tallagelaw24.ExitPays", spec := "exitPays", inPlace := ["internal/abi.NoEscape", "internal/bytealg.abigen_runtime_cmpstring", "slices.overlaps[string]", "slices.overlaps[tallage/store.block]"], unfollowed := true, recurses := true, apart := false, narrowed := true }
def ExitPaysUptoSaid : Prop := exitPaysUptoRow.holds Tryz.pinned (OpenSpec.upto exitPaysSpec)

/-- 'tallagelaw29.AllocWaits', WHERE WHAT IT READS IS OF BULK AT MOST 1048576: true; the input reads as it did. -/
def allocWaitsUptoRow : OpenClaim := { program := "ytnkilceibkkjlaagreat", sum := "757499ed2883b0834bf657b8284f276b9d62bffd644f4007a76c94776d42f1a5", func := "tallage/tallagelaw29.AllocWaits", spec := "allocWaits", inPlace := ["internal/abi.NoEscape", "internal/bytealg.abigen_runtime_cmpstring", "slices.overlaps[string]", "slices.overlaps[tallage/store.block]"], unfollowed := true, recurses := true, apart := false, narrowed := true }
def AllocWaitsUptoSaid : Prop := allocWaitsUptoRow.holds Tryz.pinned (OpenSpec.upto allocWaitsSpec)

/-- 'tallagelaw29.AllocAdds', WHERE WHAT IT READS IS OF BULK AT MOST 1048576: true; the input reads as it did. -/
def allocAddsUptoRow : OpenClaim := { program := "ytnkilceibkkjlaagreat", sum := "757499ed2883b0834bf657b8284f276b9d62bffd644f4007a76c94776d42f1a5", func := "tallage/tallagelaw29.AllocAdds", spec := "allocAdds", inPlace := ["internal/abi.NoEscape", "internal/bytealg.abigen_runtime_cmpstring", "slices.overlaps[string]", "slices.overlaps[tallage/store.block]"], unfollowed := true, recurses := true, apart := false, narrowed := true }
def AllocAddsUptoSaid : Prop := allocAddsUptoRow.holds Tryz.pinned (OpenSpec.upto allocAddsSpec)

/-- 'tallagelaw29.AllocActs', WHERE WHAT IT READS IS OF BULK AT MOST 1048576: true; the input reads as it did. -/
def allocActsUptoRow : OpenClaim := { program := "ytnkilceibkkjlaagreat", sum := "757499ed2883b0834bf657b8284f276b9d62bffd644f4007a76c94776d42f1a5", func := "tallage/tallagelaw29.AllocActs", spec := "allocActs", inPlace := ["internal/abi.NoEscape", "internal/bytealg.abigen_runtime_cmpstring", "slices.overlaps[string]", "slices.overlaps[tallage/store.block]"], unfollowed := true, recurses := true, apart := false, narrowed := true }
def AllocActsUptoSaid : Prop := allocActsUptoRow.holds Tryz.pinned (OpenSpec.upto allocActsSpec)

/-- 'tallagelaw24.ExitCovers', WHERE WHAT IT READS IS OF BULK AT MOST 1048576: true; the input reads as it did. -/
def exitCoversUptoRow : OpenClaim := { program := "ytnkilceibkkjlaagreat", sum := "757499ed2883b0834bf657b8284f276b9d62bffd644f4007a76c94776d42f1a5", func := "tallage/tallagelaw24.ExitCovers", spec := "exitCovers", inPlace := ["internal/abi.NoEscape", "internal/bytealg.abigen_runtime_cmpstring", "slices.overlaps[string]", "slices.overlaps[tallage/store.block]"], unfollowed := true, recurses := true, apart := false, narrowed := true }
def ExitCoversUptoSaid : Prop := exitCoversUptoRow.holds Tryz.pinned (OpenSpec.upto exitCoversSpec)

/-- 'tallagelaw24.ExitNone', WHERE WHAT IT READS IS OF BULK AT MOST 1048576: true; the input reads as it did. -/
def exitNoneUptoRow : OpenClaim := { program := "ytnkilceibkkjlaagreat", sum := "757499ed2883b0834bf657b8284f276b9d62bffd644f4007a76c94776d42f1a5", func := "tallage/tallagelaw24.ExitNone", spec := "exitNone", inPlace := ["internal/abi.NoEscape", "internal/bytealg.abigen_runtime_cmpstring", "slices.overlaps[string]", "slices.overlaps[tallage/store.block]"], unfollowed := true, recurses := true, apart := false, narrowed := true }
def ExitNoneUptoSaid : Prop := exitNoneUptoRow.holds Tryz.pinned (OpenSpec.upto exitNoneSpec)

/-- 'tallagelaw24.ExitActs', WHERE WHAT IT READS IS OF BULK AT MOST 1048576: true; the input reads as it did. -/
def exitActsUptoRow : OpenClaim := { program := "ytnkilceibkkjlaagreat", sum := "757499ed2883b0834bf657b8284f276b9d62bffd644f4007a76c94776d42f1a5", func := "tallage/tallagelaw24.ExitActs", spec := "exitActs", inPlace := ["internal/abi.NoEscape", "internal/bytealg.abigen_runtime_cmpstring", "slices.overlaps[string]", "slices.overlaps[tallage/store.block]"], unfollowed := true, recurses := true, apart := false, narrowed := true }
def ExitActsUptoSaid : Prop := exitActsUptoRow.holds Tryz.pinned (OpenSpec.upto exitActsSpec)

end Rows
end Go.Proofs.YtnkilceibkkjlaaGreat
