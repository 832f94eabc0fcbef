/-
  No cell of these rows narrows 'for every input' (looked for: loops, veiled, ifaces, maps, wideKeys, modest, calm, conditions, laid).
  DERIVED. THE GIVEN ROWS OF THIS SEAT. 6 by the template 'for every input the law returns true; each argument reads behind the call as it read before'; 0 by the template 'total and deterministic' (their statements: YtehhpaellcffmaaTotals.lean).
  GIVEN WITH THE SEED: the statements are not yours to turn. If you find one false, say at which input.
  Laid BY PROGRAM, IN A SANDBOX (cutbox-rows.mjs): the forced cells as the released guide's own fill.sh prints them over the translation c6682fb2d56eb594… (all of the seat's roots in one cut). By AI agents, Wed Nov 11 2026. No macro, syntax, notation, axiom, sorry.
-/
import Derived.Test.YtehhpaellcffmaaChecked
import GoSem.Claim
import GoSem.ClaimJoined
import GoSem.ClaimMapViews
import Derived.JoinedTies
import Derived.KernelRfl
namespace Go.Proofs.Ytehhpaellcffmaa
/- THE CELL 'sum', in the pinned program and in every row, IS THE sha256 OF THE DUMP (.gsa) THAT YtehhpaellcffmaaProg.lean LOADS. Nothing in Lean hashes anything: it is a label: what it is worth is what the hold of that sum in a sandbox is worth. -/
noncomputable def Try.pinned : Pinned := { name := "ytehhpaellcffmaa", sum := "c6682fb2d56eb594811bce2f254b9d7a2828f37d79a0ac1f9af70bb439aca467", checked := Try.checked }
namespace Rows
def none {H : Type} : Left H := { results := [], args := [] }

/-- 'reedpipelaw03.FixNear': WHATEVER THE INPUT: true; the input reads as it did. -/
def fixNearSpec : ChangeSpec := { name := "fixNear", fn := fun _ => fun
  | [d1, d2, d3] => { results := [.lit (.bool true)], args := [d1, d2, d3] }
  | _ => none }
def fixNearRow : OpenClaim := { program := "ytehhpaellcffmaa", sum := "c6682fb2d56eb594811bce2f254b9d7a2828f37d79a0ac1f9af70bb439aca467", func := "reedpipe/reedpipelaw03.FixNear", spec := "fixNear", unfollowed := true, recurses := true, apart := false }
def FixNearSaid : Prop := fixNearRow.holds Try.pinned (OpenSpec.ofChange fixNearSpec)

/-- ITS FALSE NEIGHBOUR: 'it returns false'. Refute it at one input. -/
def fixNearWrong : ChangeSpec := { name := "fixNear", fn := fun _ => fun
  | [d1, d2, d3] => { results := [.lit (.bool false)], args := [d1, d2, d3] }
  | _ => none }
def FixNearWrongFalsely : Prop := fixNearRow.holds Try.pinned (OpenSpec.ofChange fixNearWrong)

/-- 'reedpipelaw03.FixSums': WHATEVER THE INPUT: true; the input reads as it did. -/
def fixSumsSpec : ChangeSpec := { name := "fixSums", fn := fun _ => fun
  | [d1, d2, d3, d4] => { results := [.lit (.bool true)], args := [d1, d2, d3, d4] }
  | _ => none }
def fixSumsRow : OpenClaim := { program := "ytehhpaellcffmaa", sum := "c6682fb2d56eb594811bce2f254b9d7a2828f37d79a0ac1f9af70bb439aca467", func := "reedpipe/reedpipelaw03.FixSums", spec := "fixSums", unfollowed := true, recurses := true, apart := false }
def FixSumsSaid : Prop := fixSumsRow.holds Try.pinned (OpenSpec.ofChange fixSumsSpec)

/-- ITS FALSE NEIGHBOUR: 'it returns false'. Refute it at one input. -/
def fixSumsWrong : ChangeSpec := { name := "fixSums", fn := fun _ => fun
  | [d1, d2, d3, d4] => { results := [.lit (.bool false)], args := [d1, d2, d3, d4] }
  | _ => none }
def FixSumsWrongFalsely : Prop := fixSumsRow.holds Try.pinned (OpenSpec.ofChange fixSumsWrong)

/-- 'reedpipelaw03.FixRoots': WHATEVER THE INPUT: true; the input reads as it did. -/
def fixRootsSpec : ChangeSpec := { name := "fixRoots", fn := fun _ => fun
  | [d1, d2, d3] => { results := [.lit (.bool true)], args := [d1, d2, d3] }
  | _ => none }
def fixRootsRow : OpenClaim := { program := "ytehhpaellcffmaa", sum := "c6682fb2d56eb594811bce2f254b9d7a2828f37d79a0ac1f9af70bb439aca467", func := "reedpipe/reedpipelaw03.FixRoots", spec := "fixRoots", unfollowed := true, recurses := true, apart := false }
def FixRootsSaid : Prop := fixRootsRow.holds Try.pinned (OpenSpec.ofChange fixRootsSpec)

/-- ITS FALSE NEIGHBOUR: 'it returns false'. Refute it at one input. -/
def fixRootsWrong : ChangeSpec := { name := "fixRoots", fn := fun _ => fun
  | [d1, d2, d3] => { results := [.lit (.bool false)], args := [d1, d2, d3] }
  | _ => none }
def FixRootsWrongFalsely : Prop := fixRootsRow.holds Try.pinned (OpenSpec.ofChange fixRootsWrong)

/-- 'reedpipelaw03.FixKept': WHATEVER THE INPUT: true; the input reads as it did. -/
def fixKeptSpec : ChangeSpec := { name := "fixKept", fn := fun _ => fun
  | [d1, d2, d3] => { results := [.lit (.bool true)], args := [d1, d2, d3] }
  | _ => none }
def fixKeptRow : OpenClaim := { program := "ytehhpaellcffmaa", sum := "c6682fb2d56eb594811bce2f254b9d7a2828f37d79a0ac1f9af70bb439aca467", func := "reedpipe/reedpipelaw03.FixKept", spec := "fixKept", unfollowed := true, recurses := true, apart := false }
def FixKeptSaid : Prop := fixKeptRow.holds Try.pinned (OpenSpec.ofChange fixKeptSpec)

/-- ITS FALSE NEIGHBOUR: 'it returns false'. Refute it at one input. -/
def fixKeptWrong : ChangeSpec := { name := "fixKept", fn := fun _ => fun
  | [d1, d2, d3] => { results := [.lit (.bool false)], args := [d1, d2, d3] }
  | _ => none }
def FixKeptWrongFalsely : Prop := fixKeptRow.holds Try.pinned (OpenSpec.ofChange fixKeptWrong)

/-- 'reedpipelaw03.FixNames': WHATEVER THE INPUT: true; the input reads as it did. -/
def fixNamesSpec : ChangeSpec := { name := "fixNames", fn := fun _ => fun
  | [] => { results := [.lit (.bool true)], args := [] }
  | _ => none }
def fixNamesRow : OpenClaim := { program := "ytehhpaellcffmaa", sum := "c6682fb2d56eb594811bce2f254b9d7a2828f37d79a0ac1f9af70bb439aca467", func := "reedpipe/reedpipelaw03.FixNames", spec := "fixNames", unfollowed := true, recurses := true, apart := false }
def FixNamesSaid : Prop := fixNamesRow.holds Try.pinned (OpenSpec.ofChange fixNamesSpec)

/-- ITS FALSE NEIGHBOUR: 'it returns false'. Refute it at one input. -/
def fixNamesWrong : ChangeSpec := { name := "fixNames", fn := fun _ => fun
  | [] => { results := [.lit (.bool false)], args := [] }
  | _ => none }
def FixNamesWrongFalsely : Prop := fixNamesRow.holds Try.pinned (OpenSpec.ofChange fixNamesWrong)

/-- 'reedpipelaw03.FixDoes': WHATEVER THE INPUT: true; the input reads as it did. -/
def fixDoesSpec : ChangeSpec := { name := "fixDoes", fn := fun _ => fun
  | [d1, d2] => { results := [.lit (.bool true)], args := [d1, d2] }
  | _ => none }
def fixDoesRow : OpenClaim := { program := "ytehhpaellcffmaa", sum := "c6682fb2d56eb594811bce2f254b9d7a2828f37d79a0ac1f9af70bb439aca467", func := "reedpipe/reedpipelaw03.FixDoes", spec := "fixDoes", unfollowed := true, recurses := true, apart := false }
def FixDoesSaid : Prop := fixDoesRow.holds Try.pinned (OpenSpec.ofChange fixDoesSpec)

/-- ITS FALSE NEIGHBOUR: 'it returns false'. Refute it at one input. -/
def fixDoesWrong : ChangeSpec := { name := "fixDoes", fn := fun _ => fun
  | [d1, d2] => { results := [.lit (.bool false)], args := [d1, d2] }
  | _ => none }
def FixDoesWrongFalsely : Prop := fixDoesRow.holds Try.pinned (OpenSpec.ofChange fixDoesWrong)

/- THE SECOND FORM. 'bulk': how many values and letters a reading holds, each counted each time it is reached (what is shared counts as often as it is met; a slice's spare places count too). A statement '..UptoSaid' is the law's where the arguments, and the package variables that the reading takes, are together of bulk at most 1048576: NARROWER than '..Said'. Prove '..Said' where nothing that the law and all that it calls make is longer than what came in: it says more and counts as full. Else prove '..UptoSaid'. A law counts once. -/
mutual
def uptoBulk {H : Type} : DataW H → Nat
  | .lit (.string bytes) => bytes.length + 1
  | .lit _ => 1
  | .nil => 1
  | .ptr d => uptoBulk d + 1
  | .slice elems spare => uptoBulkAll elems + uptoBulkAll spare + 1
  | .agg parts => uptoBulkAll parts + 1
  | .iface _ d => uptoBulk d + 1
  | .map entries => uptoBulkEntries entries + 1
  | .held _ => 1
def uptoBulkAll {H : Type} : List (DataW H) → Nat
  | [] => 0
  | d :: r => uptoBulk d + uptoBulkAll r
def uptoBulkEntries {H : Type} : List (Lit × DataW H) → Nat
  | [] => 0
  | x :: r => uptoBulkEntry x + uptoBulkEntries r
def uptoBulkEntry {H : Type} : Lit × DataW H → Nat
  | (.string bytes, d) => bytes.length + uptoBulk d + 1
  | (_, d) => uptoBulk d + 1
 end
def uptoSmall : (H : Type) → List (DataW H) → Bool := fun _ ds => decide (uptoBulkAll ds ≤ 1048576)
def OpenSpec.upto (s : _root_.Go.ChangeSpec) : _root_.Go.OpenSpec := { _root_.Go.OpenSpec.ofChange s with cond := some uptoSmall }

/-- 'reedpipelaw03.FixNear', WHERE WHAT IT READS IS OF BULK AT MOST 1048576: true; the input reads as it did. -/
def fixNearUptoRow : OpenClaim := { program := "ytehhpaellcffmaa", sum := "c6682fb2d56eb594811bce2f254b9d7a2828f37d79a0ac1f9af70bb439aca467", func := "reedpipe/reedpipelaw03.FixNear", spec := "fixNear", unfollowed := true, recurses := true, apart := false, narrowed := true }
def FixNearUptoSaid : Prop := fixNearUptoRow.holds Try.pinned (OpenSpec.upto fixNearSpec)

/-- 'reedpipelaw03.FixSums', WHERE WHAT IT READS IS OF BULK AT MOST 1048576: true; the input reads as it did. -/
def fixSumsUptoRow : OpenClaim := { program := "ytehhpaellcffmaa", sum := "c6682fb2d56eb594811bce2f254b9d7a2828f37d79a0ac1f9af70bb439aca467", func := "reedpipe/reedpipelaw03.FixSums", spec := "fixSums", unfollowed := true, recurses := true, apart := false, narrowed := true }
def FixSumsUptoSaid : Prop := fixSumsUptoRow.holds Try.pinned (OpenSpec.upto fixSumsSpec)

/-- 'reedpipelaw03.FixRoots', WHERE WHAT IT READS IS OF BULK AT MOST 1048576: true; the input reads as it did. -/
def fixRootsUptoRow : OpenClaim := { program := "ytehhpaellcffmaa", sum := "c6682fb2d56eb594811bce2f254b9d7a2828f37d79a0ac1f9af70bb439aca467", func := "reedpipe/reedpipelaw03.FixRoots", spec := "fixRoots", unfollowed := true, recurses := true, apart := false, narrowed := true }
def FixRootsUptoSaid : Prop := fixRootsUptoRow.holds Try.pinned (OpenSpec.upto fixRootsSpec)

/-- 'reedpipelaw03.FixKept', WHERE WHAT IT READS IS OF BULK AT MOST 1048576: true; the input reads as it did. -/
def fixKeptUptoRow : OpenClaim := { program := "ytehhpaellcffmaa", sum := "c6682fb2d56eb594811bce2f254b9d7a2828f37d79a0ac1f9af70bb439aca467", func := "reedpipe/reedpipelaw03.FixKept", spec := "fixKept", unfollowed := true, recurses := true, apart := false, narrowed := true }
def FixKeptUptoSaid : Prop := fixKeptUptoRow.holds Try.pinned (OpenSpec.upto fixKeptSpec)

/-- 'reedpipelaw03.FixNames', WHERE WHAT IT READS IS OF BULK AT MOST 1048576: true; the input reads as it did. -/
def fixNamesUptoRow : OpenClaim := { program := "ytehhpaellcffmaa", sum := "c6682fb2d56eb594811bce2f254b9d7a2828f37d79a0ac1f9af70bb439aca467", func := "reedpipe/reedpipelaw03.FixNames", spec := "fixNames", unfollowed := true, recurses := true, apart := false, narrowed := true }
def FixNamesUptoSaid : Prop := fixNamesUptoRow.holds Try.pinned (OpenSpec.upto fixNamesSpec)

/-- 'reedpipelaw03.FixDoes', WHERE WHAT IT READS IS OF BULK AT MOST 1048576: true; the input reads as it did. -/
def fixDoesUptoRow : OpenClaim := { program := "ytehhpaellcffmaa", sum := "c6682fb2d56eb594811bce2f254b9d7a2828f37d79a0ac1f9af70bb439aca467", func := "reedpipe/reedpipelaw03.FixDoes", spec := "fixDoes", unfollowed := true, recurses := true, apart := false, narrowed := true }
def FixDoesUptoSaid : Prop := fixDoesUptoRow.holds Try.pinned (OpenSpec.upto fixDoesSpec)

end Rows
end Go.Proofs.Ytehhpaellcffmaa
