-- Written by a program of this session's own (a turned copy of the kit's print); Lean checks it.
import Derived.Test.YtochlpbgllgmdabProg
import Derived.Below
import Derived.Deep.Draws
import Derived.Deep.AppendLies
import Derived.Maps.AppendAt
import Derived.OwnWalk
import Derived.Laws.BytesArg
import Derived.Laws.MakeOwn
import Derived.Laws.OwnMore
import Derived.Deep.OwnRows
import Derived.Tactics
import Derived.Lib.ConvBytes
import Derived.Laws.Slices
import Derived.WalkKit
import Derived.KernelRfl
import Derived.RowKit3
import Derived.Deep.LoopGhost
import Derived.Deep.QuietTactic
import Derived.BigQuiet
import Derived.WideLaws
import Derived.Deep.DeepCutAuto
import Derived.Deep.CutBlock
import Derived.Deep.RegionHeld3
import Derived.Laws.Rows
import Derived.Lib.AppendStr
import Derived.ArgAppend
import Derived.Laws.IdiomCopy
import Derived.OrdersHeld
import Derived.Laws.BitsLemmas
import Derived.RowKit
import Derived.Test.YtochlpbgllgmdabGo
import Derived.Test.YtochlpbgllgmdabWWords
import Derived.Test.YtochlpbgllgmdabWLast
import Derived.Test.YtochlpbgllgmdabWTab
import Derived.Test.YtochlpbgllgmdabWFour
import Derived.Test.YtochlpbgllgmdabWQPut
import Derived.Test.YtochlpbgllgmdabWApart
import Derived.Test.YtochlpbgllgmdabWArr
import Derived.Test.YtochlpbgllgmdabWZeros
import Derived.Test.YtochlpbgllgmdabWFoot
import Derived.Test.YtochlpbgllgmdabWKept
import Derived.Test.YtochlpbgllgmdabWShare
import Derived.Test.YtochlpbgllgmdabWN
import Derived.Test.YtochlpbgllgmdabWFootNe
import Derived.Test.YtochlpbgllgmdabWAt
import Derived.Test.YtochlpbgllgmdabWEqStruct
import Derived.Test.YtochlpbgllgmdabWRepsOne
import Derived.Test.YtochlpbgllgmdabWInv
import Derived.Test.YtochlpbgllgmdabWInvWords
import Derived.Test.YtochlpbgllgmdabWGuard
import Derived.Test.YtochlpbgllgmdabWNEv
import Derived.Test.YtochlpbgllgmdabWMore
namespace Go.Proofs.Ytochlpbgllgmdab.PrintS
open Go.RowKit Go.Proofs.Ytochlpbgllgmdab Go.Proofs.YtochlpbgllgmdabW.PrintWords Go.Proofs.YtochlpbgllgmdabW.PrintLast Go.Proofs.YtochlpbgllgmdabW.PrintMore
attribute [local go_sem] max2_int min2_int max_two min_two max_three min_three max_four min_four   -- for this text's walks alone
set_option linter.unusedVariables false
set_option linter.unusedSimpArgs false



def errW : Option Int → Value
  | none => .nilIface
  | some c => .iface 0 (.int .i64 c)
theorem errW_none : errW none = .nilIface := rfl
theorem errW_some (c : Int) : errW (some c) = .iface 0 (.int .i64 c) := rfl

-- the values' own types

end Go.Proofs.Ytochlpbgllgmdab.PrintS
