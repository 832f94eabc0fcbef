-- Written by a program of this session's own (a turned copy of the kit's print); Lean checks it.
import Derived.Test.YthlodaeodakomabProg
import Derived.Below
import Derived.Deep.Draws
import Derived.Deep.AppendLies
import Derived.Maps.AppendAt
import Derived.OwnWalk
import Derived.Laws.BytesArg
import Derived.Laws.MakeOwn
import Derived.Laws.OwnMore
import Derived.Deep.OwnRows
import Derived.Tactics
import Derived.Lib.ConvBytes
import Derived.Laws.Slices
import Derived.WalkKit
import Derived.KernelRfl
import Derived.RowKit3
import Derived.Deep.LoopGhost
import Derived.Deep.QuietTactic
import Derived.BigQuiet
import Derived.WideLaws
import Derived.Deep.DeepCutAuto
import Derived.Deep.CutBlock
import Derived.Deep.RegionHeld3
import Derived.Laws.Rows
import Derived.Lib.AppendStr
import Derived.ArgAppend
import Derived.Laws.IdiomCopy
import Derived.OrdersHeld
import Derived.Laws.BitsLemmas
import Derived.RowKit
import Derived.Test.YthlodaeodakomabGr
import Derived.Test.YthlodaeodakomabWWords
import Derived.Test.YthlodaeodakomabWLast
import Derived.Test.YthlodaeodakomabWTab
import Derived.Test.YthlodaeodakomabWFour
import Derived.Test.YthlodaeodakomabWQPut
import Derived.Test.YthlodaeodakomabWApart
import Derived.Test.YthlodaeodakomabWArr
import Derived.Test.YthlodaeodakomabWZeros
import Derived.Test.YthlodaeodakomabWFoot
import Derived.Test.YthlodaeodakomabWKept
import Derived.Test.YthlodaeodakomabWShare
import Derived.Test.YthlodaeodakomabWN
import Derived.Test.YthlodaeodakomabWFootNe
import Derived.Test.YthlodaeodakomabWAt
import Derived.Test.YthlodaeodakomabWEqStruct
import Derived.Test.YthlodaeodakomabWRepsOne
import Derived.Test.YthlodaeodakomabWInv
import Derived.Test.YthlodaeodakomabWInvWords
import Derived.Test.YthlodaeodakomabWGuard
import Derived.Test.YthlodaeodakomabWNEv
import Derived.Test.YthlodaeodakomabWMore
namespace Go.Proofs.Ythlodaeodakomab.PrintP
open Go.RowKit Go.Proofs.Ythlodaeodakomab Go.Proofs.YthlodaeodakomabW.PrintWords Go.Proofs.YthlodaeodakomabW.PrintLast Go.Proofs.YthlodaeodakomabW.PrintMore
attribute [local go_sem] max2_int min2_int max_two min_two max_three min_three max_four min_four   -- for this text's walks alone
set_option linter.unusedVariables false
set_option linter.unusedSimpArgs false



def errW : Option Int → Value
  | none => .nilIface
  | some c => .iface 0 (.int .i64 c)
theorem errW_none : errW none = .nilIface := rfl
theorem errW_some (c : Int) : errW (some c) = .iface 0 (.int .i64 c) := rfl

-- the values' own types

end Go.Proofs.Ythlodaeodakomab.PrintP
