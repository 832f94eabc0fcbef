-- Written by a program of this session's own (a turned copy of the kit's print); Lean checks it.
import Derived.Test.YtehhpaellcffmaaProg
import Derived.Below
import Derived.Deep.Draws
import Derived.Deep.AppendLies
import Derived.Maps.AppendAt
import Derived.OwnWalk
import Derived.Laws.BytesArg
import Derived.Laws.MakeOwn
import Derived.Laws.OwnMore
import Derived.Deep.OwnRows
import Derived.Tactics
import Derived.Lib.ConvBytes
import Derived.Laws.Slices
import Derived.WalkKit
import Derived.KernelRfl
import Derived.RowKit3
import Derived.Deep.LoopGhost
import Derived.Deep.QuietTactic
import Derived.BigQuiet
import Derived.WideLaws
import Derived.Deep.DeepCutAuto
import Derived.Deep.CutBlock
import Derived.Deep.RegionHeld3
import Derived.Laws.Rows
import Derived.Lib.AppendStr
import Derived.ArgAppend
import Derived.Laws.IdiomCopy
import Derived.OrdersHeld
import Derived.Laws.BitsLemmas
import Derived.RowKit
import Derived.Test.YtehhpaellcffmaaGs
import Derived.Test.YtehhpaellcffmaaGc
import Derived.Test.YtehhpaellcffmaaWWords
import Derived.Test.YtehhpaellcffmaaWLast
import Derived.Test.YtehhpaellcffmaaWTab
import Derived.Test.YtehhpaellcffmaaWFour
import Derived.Test.YtehhpaellcffmaaWQPut
import Derived.Test.YtehhpaellcffmaaWApart
import Derived.Test.YtehhpaellcffmaaWArr
import Derived.Test.YtehhpaellcffmaaWZeros
import Derived.Test.YtehhpaellcffmaaWFoot
import Derived.Test.YtehhpaellcffmaaWKept
import Derived.Test.YtehhpaellcffmaaWShare
import Derived.Test.YtehhpaellcffmaaWN
import Derived.Test.YtehhpaellcffmaaWFootNe
import Derived.Test.YtehhpaellcffmaaWAt
import Derived.Test.YtehhpaellcffmaaWEqStruct
import Derived.Test.YtehhpaellcffmaaWRepsOne
import Derived.Test.YtehhpaellcffmaaWInv
import Derived.Test.YtehhpaellcffmaaWInvWords
import Derived.Test.YtehhpaellcffmaaWGuard
import Derived.Test.YtehhpaellcffmaaWNEv
import Derived.Test.YtehhpaellcffmaaWMore
namespace Go.Proofs.Ytehhpaellcffmaa.PrintK
open Go.RowKit Go.Proofs.Ytehhpaellcffmaa Go.Proofs.YtehhpaellcffmaaW.PrintWords Go.Proofs.YtehhpaellcffmaaW.PrintLast Go.Proofs.YtehhpaellcffmaaW.PrintMore
attribute [local go_sem] max2_int min2_int max_two min_two max_three min_three max_four min_four   -- for this text's walks alone
set_option linter.unusedVariables false
set_option linter.unusedSimpArgs false



def errW : Option Int → Value
  | none => .nilIface
  | some c => .iface 0 (.int .i64 c)
theorem errW_none : errW none = .nilIface := rfl
theorem errW_some (c : Int) : errW (some c) = .iface 0 (.int .i64 c) := rfl

-- the values' own types

end Go.Proofs.Ytehhpaellcffmaa.PrintK
