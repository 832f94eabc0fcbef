-- Written by a program of this session's own (a turned copy of the kit's print); Lean checks it.
import Derived.Test.YthlodaeodakomaaProg
import Derived.Below
import Derived.Deep.Draws
import Derived.Deep.AppendLies
import Derived.Maps.AppendAt
import Derived.OwnWalk
import Derived.Laws.BytesArg
import Derived.Laws.MakeOwn
import Derived.Laws.OwnMore
import Derived.Deep.OwnRows
import Derived.Tactics
import Derived.Lib.ConvBytes
import Derived.Laws.Slices
import Derived.WalkKit
import Derived.KernelRfl
import Derived.RowKit3
import Derived.Deep.LoopGhost
import Derived.Deep.QuietTactic
import Derived.BigQuiet
import Derived.WideLaws
import Derived.Deep.DeepCutAuto
import Derived.Deep.CutBlock
import Derived.Deep.RegionHeld3
import Derived.Laws.Rows
import Derived.Lib.AppendStr
import Derived.ArgAppend
import Derived.Laws.IdiomCopy
import Derived.OrdersHeld
import Derived.Laws.BitsLemmas
import Derived.RowKit
import Derived.Test.YthlodaeodakomaaGb
import Derived.Test.YthlodaeodakomaaWWords
import Derived.Test.YthlodaeodakomaaWLast
import Derived.Test.YthlodaeodakomaaWTab
import Derived.Test.YthlodaeodakomaaWFour
import Derived.Test.YthlodaeodakomaaWQPut
import Derived.Test.YthlodaeodakomaaWApart
import Derived.Test.YthlodaeodakomaaWArr
import Derived.Test.YthlodaeodakomaaWZeros
import Derived.Test.YthlodaeodakomaaWFoot
import Derived.Test.YthlodaeodakomaaWKept
import Derived.Test.YthlodaeodakomaaWShare
import Derived.Test.YthlodaeodakomaaWN
import Derived.Test.YthlodaeodakomaaWFootNe
import Derived.Test.YthlodaeodakomaaWAt
import Derived.Test.YthlodaeodakomaaWEqStruct
import Derived.Test.YthlodaeodakomaaWRepsOne
import Derived.Test.YthlodaeodakomaaWInv
import Derived.Test.YthlodaeodakomaaWInvWords
import Derived.Test.YthlodaeodakomaaWGuard
import Derived.Test.YthlodaeodakomaaWNEv
import Derived.Test.YthlodaeodakomaaWMore
namespace Go.Proofs.Ythlodaeodakomaa.PrintB
open Go.RowKit Go.Proofs.Ythlodaeodakomaa Go.Proofs.YthlodaeodakomaaW.PrintWords Go.Proofs.YthlodaeodakomaaW.PrintLast Go.Proofs.YthlodaeodakomaaW.PrintMore
attribute [local go_sem] max2_int min2_int max_two min_two max_three min_three max_four min_four   -- for this text's walks alone
set_option linter.unusedVariables false
set_option linter.unusedSimpArgs false



def errW : Option Int → Value
  | none => .nilIface
  | some c => .iface 0 (.int .i64 c)
theorem errW_none : errW none = .nilIface := rfl
theorem errW_some (c : Int) : errW (some c) = .iface 0 (.int .i64 c) := rfl

theorem info3 : (Try.prog.info? 3).map (fun i => (i.zero, i.size, i.bytes)) = some (some (.int .i64 0), 1, 8) := by kernel_rfl
-- the values' own types

end Go.Proofs.Ythlodaeodakomaa.PrintB
