-- Written by a program of this session's own (a turned copy of the kit's print); Lean checks it.
import Derived.Test.YtochlpbgllgmdaaProg
import Derived.Below
import Derived.Deep.Draws
import Derived.Deep.AppendLies
import Derived.Maps.AppendAt
import Derived.OwnWalk
import Derived.Laws.BytesArg
import Derived.Laws.MakeOwn
import Derived.Laws.OwnMore
import Derived.Deep.OwnRows
import Derived.Tactics
import Derived.Lib.ConvBytes
import Derived.Laws.Slices
import Derived.WalkKit
import Derived.KernelRfl
import Derived.RowKit3
import Derived.Deep.LoopGhost
import Derived.Deep.QuietTactic
import Derived.BigQuiet
import Derived.WideLaws
import Derived.Deep.DeepCutAuto
import Derived.Deep.CutBlock
import Derived.Deep.RegionHeld3
import Derived.Laws.Rows
import Derived.Lib.AppendStr
import Derived.ArgAppend
import Derived.Laws.IdiomCopy
import Derived.OrdersHeld
import Derived.Laws.BitsLemmas
import Derived.RowKit
import Derived.Test.YtochlpbgllgmdaaGs
import Derived.Test.YtochlpbgllgmdaaGc
import Derived.Test.YtochlpbgllgmdaaWWords
import Derived.Test.YtochlpbgllgmdaaWLast
import Derived.Test.YtochlpbgllgmdaaWTab
import Derived.Test.YtochlpbgllgmdaaWFour
import Derived.Test.YtochlpbgllgmdaaWQPut
import Derived.Test.YtochlpbgllgmdaaWApart
import Derived.Test.YtochlpbgllgmdaaWArr
import Derived.Test.YtochlpbgllgmdaaWZeros
import Derived.Test.YtochlpbgllgmdaaWFoot
import Derived.Test.YtochlpbgllgmdaaWKept
import Derived.Test.YtochlpbgllgmdaaWShare
import Derived.Test.YtochlpbgllgmdaaWN
import Derived.Test.YtochlpbgllgmdaaWFootNe
import Derived.Test.YtochlpbgllgmdaaWAt
import Derived.Test.YtochlpbgllgmdaaWEqStruct
import Derived.Test.YtochlpbgllgmdaaWRepsOne
import Derived.Test.YtochlpbgllgmdaaWInv
import Derived.Test.YtochlpbgllgmdaaWInvWords
import Derived.Test.YtochlpbgllgmdaaWGuard
import Derived.Test.YtochlpbgllgmdaaWNEv
import Derived.Test.YtochlpbgllgmdaaWMore
namespace Go.Proofs.Ytochlpbgllgmdaa.PrintR
open Go.RowKit Go.Proofs.Ytochlpbgllgmdaa Go.Proofs.YtochlpbgllgmdaaW.PrintWords Go.Proofs.YtochlpbgllgmdaaW.PrintLast Go.Proofs.YtochlpbgllgmdaaW.PrintMore
attribute [local go_sem] max2_int min2_int max_two min_two max_three min_three max_four min_four   -- for this text's walks alone
set_option linter.unusedVariables false
set_option linter.unusedSimpArgs false



def errW : Option Int → Value
  | none => .nilIface
  | some c => .iface 0 (.int .i64 c)
theorem errW_none : errW none = .nilIface := rfl
theorem errW_some (c : Int) : errW (some c) = .iface 0 (.int .i64 c) := rfl

-- the values' own types

end Go.Proofs.Ytochlpbgllgmdaa.PrintR
