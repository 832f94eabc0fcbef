/-
  No cell of these rows narrows 'for every input' (looked for: loops, veiled, ifaces, maps, wideKeys, modest, calm, conditions, laid).
  DERIVED. THE GIVEN ROWS OF THIS SEAT. 5 by the template 'for every input the law returns true; each argument reads behind the call as it read before'; 0 by the template 'total and deterministic' (their statements: YthlodaeodakomabTotals.lean).
  GIVEN WITH THE SEED: the statements are not yours to turn. If you find one false, say at which input.
  Laid BY PROGRAM, IN A SANDBOX (cutbox-rows.mjs): the forced cells as the released guide's own fill.sh prints them over the translation 130e84b49b106ab0… (all of the seat's roots in one cut). By AI agents, Wed Nov 11 2026. No macro, syntax, notation, axiom, sorry.
-/
import Derived.Test.YthlodaeodakomabChecked
import GoSem.Claim
import GoSem.ClaimJoined
import GoSem.ClaimMapViews
import Derived.JoinedTies
import Derived.KernelRfl
namespace Go.Proofs.Ythlodaeodakomab
/- THE CELL 'sum', in the pinned program and in every row, IS THE sha256 OF THE DUMP (.gsa) THAT YthlodaeodakomabProg.lean LOADS. Nothing in Lean hashes anything: it is a label: what it is worth is what the hold of that sum in a sandbox is worth. -/
noncomputable def Try.pinned : Pinned := { name := "ythlodaeodakomab", sum := "130e84b49b106ab0aa27ad51bfb9a40ed553d943fdedb71860d447396b38da97", checked := Try.checked }
namespace Rows
def none {H : Type} : Left H := { results := [], args := [] }

/-- 'reedpipelaw07.PowerRises': WHATEVER THE INPUT: true; the input reads as it did. -/
def powerRisesSpec : ChangeSpec := { name := "powerRises", fn := fun _ => fun
  | [d1, d2] => { results := [.lit (.bool true)], args := [d1, d2] }
  | _ => none }
def powerRisesRow : OpenClaim := { program := "ythlodaeodakomab", sum := "130e84b49b106ab0aa27ad51bfb9a40ed553d943fdedb71860d447396b38da97", func := "reedpipe/reedpipelaw07.PowerRises", spec := "powerRises", unfollowed := true, recurses := true, apart := false }
def PowerRisesSaid : Prop := powerRisesRow.holds Try.pinned (OpenSpec.ofChange powerRisesSpec)

/-- ITS FALSE NEIGHBOUR: 'it returns false'. Refute it at one input. -/
def powerRisesWrong : ChangeSpec := { name := "powerRises", fn := fun _ => fun
  | [d1, d2] => { results := [.lit (.bool false)], args := [d1, d2] }
  | _ => none }
def PowerRisesWrongFalsely : Prop := powerRisesRow.holds Try.pinned (OpenSpec.ofChange powerRisesWrong)

/-- 'reedpipelaw07.PowerDoubles': WHATEVER THE INPUT: true; the input reads as it did. -/
def powerDoublesSpec : ChangeSpec := { name := "powerDoubles", fn := fun _ => fun
  | [d1, d2] => { results := [.lit (.bool true)], args := [d1, d2] }
  | _ => none }
def powerDoublesRow : OpenClaim := { program := "ythlodaeodakomab", sum := "130e84b49b106ab0aa27ad51bfb9a40ed553d943fdedb71860d447396b38da97", func := "reedpipe/reedpipelaw07.PowerDoubles", spec := "powerDoubles", unfollowed := true, recurses := true, apart := false }
def PowerDoublesSaid : Prop := powerDoublesRow.holds Try.pinned (OpenSpec.ofChange powerDoublesSpec)

/-- ITS FALSE NEIGHBOUR: 'it returns false'. Refute it at one input. -/
def powerDoublesWrong : ChangeSpec := { name := "powerDoubles", fn := fun _ => fun
  | [d1, d2] => { results := [.lit (.bool false)], args := [d1, d2] }
  | _ => none }
def PowerDoublesWrongFalsely : Prop := powerDoublesRow.holds Try.pinned (OpenSpec.ofChange powerDoublesWrong)

/-- 'reedpipelaw07.PowerNames': WHATEVER THE INPUT: true; the input reads as it did. -/
def powerNamesSpec : ChangeSpec := { name := "powerNames", fn := fun _ => fun
  | [] => { results := [.lit (.bool true)], args := [] }
  | _ => none }
def powerNamesRow : OpenClaim := { program := "ythlodaeodakomab", sum := "130e84b49b106ab0aa27ad51bfb9a40ed553d943fdedb71860d447396b38da97", func := "reedpipe/reedpipelaw07.PowerNames", spec := "powerNames", unfollowed := true, recurses := true, apart := false }
def PowerNamesSaid : Prop := powerNamesRow.holds Try.pinned (OpenSpec.ofChange powerNamesSpec)

/-- ITS FALSE NEIGHBOUR: 'it returns false'. Refute it at one input. -/
def powerNamesWrong : ChangeSpec := { name := "powerNames", fn := fun _ => fun
  | [] => { results := [.lit (.bool false)], args := [] }
  | _ => none }
def PowerNamesWrongFalsely : Prop := powerNamesRow.holds Try.pinned (OpenSpec.ofChange powerNamesWrong)

/-- 'reedpipelaw07.PowerDoes': WHATEVER THE INPUT: true; the input reads as it did. -/
def powerDoesSpec : ChangeSpec := { name := "powerDoes", fn := fun _ => fun
  | [d1, d2, d3] => { results := [.lit (.bool true)], args := [d1, d2, d3] }
  | _ => none }
def powerDoesRow : OpenClaim := { program := "ythlodaeodakomab", sum := "130e84b49b106ab0aa27ad51bfb9a40ed553d943fdedb71860d447396b38da97", func := "reedpipe/reedpipelaw07.PowerDoes", spec := "powerDoes", unfollowed := true, recurses := true, apart := false }
def PowerDoesSaid : Prop := powerDoesRow.holds Try.pinned (OpenSpec.ofChange powerDoesSpec)

/-- ITS FALSE NEIGHBOUR: 'it returns false'. Refute it at one input. -/
def powerDoesWrong : ChangeSpec := { name := "powerDoes", fn := fun _ => fun
  | [d1, d2, d3] => { results := [.lit (.bool false)], args := [d1, d2, d3] }
  | _ => none }
def PowerDoesWrongFalsely : Prop := powerDoesRow.holds Try.pinned (OpenSpec.ofChange powerDoesWrong)

/-- 'reedpipelaw07.PowerNearest': WHATEVER THE INPUT: true; the input reads as it did. -/
def powerNearestSpec : ChangeSpec := { name := "powerNearest", fn := fun _ => fun
  | [d1, d2, d3, d4] => { results := [.lit (.bool true)], args := [d1, d2, d3, d4] }
  | _ => none }
def powerNearestRow : OpenClaim := { program := "ythlodaeodakomab", sum := "130e84b49b106ab0aa27ad51bfb9a40ed553d943fdedb71860d447396b38da97", func := "reedpipe/reedpipelaw07.PowerNearest", spec := "powerNearest", unfollowed := true, recurses := true, apart := false }
def PowerNearestSaid : Prop := powerNearestRow.holds Try.pinned (OpenSpec.ofChange powerNearestSpec)

/-- ITS FALSE NEIGHBOUR: 'it returns false'. Refute it at one input. -/
def powerNearestWrong : ChangeSpec := { name := "powerNearest", fn := fun _ => fun
  | [d1, d2, d3, d4] => { results := [.lit (.bool false)], args := [d1, d2, d3, d4] }
  | _ => none }
def PowerNearestWrongFalsely : Prop := powerNearestRow.holds Try.pinned (OpenSpec.ofChange powerNearestWrong)

/- THE SECOND FORM. 'bulk': how many values and letters a reading holds, each counted each time it is reached (what is shared counts as often as it is met; a slice's spare places count too). A statement '..UptoSaid' is the law's where the arguments, and the package variables that the reading takes, are together of bulk at most 1048576: NARROWER than '..Said'. Prove '..Said' where nothing that the law and all that it calls make is longer than what came in: it says more and counts as full. Else prove '..UptoSaid'. A law counts once. -/
mutual
def uptoBulk {H : Type} : DataW H → Nat
  | .lit (.string bytes) => bytes.length + 1
  | .lit _ => 1
  | .nil => 1
  | .ptr d => uptoBulk d + 1
  | .slice elems spare => uptoBulkAll elems + uptoBulkAll spare + 1
  | .agg parts => uptoBulkAll parts + 1
  | .iface _ d => uptoBulk d + 1
  | .map entries => uptoBulkEntries entries + 1
  | .held _ => 1
def uptoBulkAll {H : Type} : List (DataW H) → Nat
  | [] => 0
  | d :: r => uptoBulk d + uptoBulkAll r
def uptoBulkEntries {H : Type} : List (Lit × DataW H) → Nat
  | [] => 0
  | x :: r => uptoBulkEntry x + uptoBulkEntries r
def uptoBulkEntry {H : Type} : Lit × DataW H → Nat
  | (.string bytes, d) => bytes.length + uptoBulk d + 1
  | (_, d) => uptoBulk d + 1
 end
def uptoSmall : (H : Type) → List (DataW H) → Bool := fun _ ds => decide (uptoBulkAll ds ≤ 1048576)
def OpenSpec.upto (s : _root_.Go.ChangeSpec) : _root_.Go.OpenSpec := { _root_.Go.OpenSpec.ofChange s with cond := some uptoSmall }

/-- 'reedpipelaw07.PowerRises', WHERE WHAT IT READS IS OF BULK AT MOST 1048576: true; the input reads as it did. -/
def powerRisesUptoRow : OpenClaim := { program := "ythlodaeodakomab", sum := "130e84b49b106ab0aa27ad51bfb9a40ed553d943fdedb71860d447396b38da97", func := "reedpipe/reedpipelaw07.PowerRises", spec := "powerRises", unfollowed := true, recurses := true, apart := false, narrowed := true }
def PowerRisesUptoSaid : Prop := powerRisesUptoRow.holds Try.pinned (OpenSpec.upto powerRisesSpec)

/-- 'reedpipelaw07.PowerDoubles', WHERE WHAT IT READS IS OF BULK AT MOST 1048576: true; the input reads as it did. -/
def powerDoublesUptoRow : OpenClaim := { program := "ythlodaeodakomab", sum := "130e84b49b106ab0aa27ad51bfb9a40ed553d943fdedb71860d447396b38da97", func := "reedpipe/reedpipelaw07.PowerDoubles", spec := "powerDoubles", unfollowed := true, recurses := true, apart := false, narrowed := true }
def PowerDoublesUptoSaid : Prop := powerDoublesUptoRow.holds Try.pinned (OpenSpec.upto powerDoublesSpec)

/-- 'reedpipelaw07.PowerNames', WHERE WHAT IT READS IS OF BULK AT MOST 1048576: true; the input reads as it did. -/
def powerNamesUptoRow : OpenClaim := { program := "ythlodaeodakomab", sum := "130e84b49b106ab0aa27ad51bfb9a40ed553d943fdedb71860d447396b38da97", func := "reedpipe/reedpipelaw07.PowerNames", spec := "powerNames", unfollowed := true, recurses := true, apart := false, narrowed := true }
def PowerNamesUptoSaid : Prop := powerNamesUptoRow.holds Try.pinned (OpenSpec.upto powerNamesSpec)

/-- 'reedpipelaw07.PowerDoes', WHERE WHAT IT READS IS OF BULK AT MOST 1048576: true; the input reads as it did. -/
def powerDoesUptoRow : OpenClaim := { program := "ythlodaeodakomab", sum := "130e84b49b106ab0aa27ad51bfb9a40ed553d943fdedb71860d447396b38da97", func := "reedpipe/reedpipelaw07.PowerDoes", spec := "powerDoes", unfollowed := true, recurses := true, apart := false, narrowed := true }
def PowerDoesUptoSaid : Prop := powerDoesUptoRow.holds Try.pinned (OpenSpec.upto powerDoesSpec)

/-- 'reedpipelaw07.PowerNearest', WHERE WHAT IT READS IS OF BULK AT MOST 1048576: true; the input reads as it did. -/
def powerNearestUptoRow : OpenClaim := { program := "ythlodaeodakomab", sum := "130e84b49b106ab0aa27ad51bfb9a40ed553d943fdedb71860d447396b38da97", func := "reedpipe/reedpipelaw07.PowerNearest", spec := "powerNearest", unfollowed := true, recurses := true, apart := false, narrowed := true }
def PowerNearestUptoSaid : Prop := powerNearestUptoRow.holds Try.pinned (OpenSpec.upto powerNearestSpec)

end Rows
end Go.Proofs.Ythlodaeodakomab
