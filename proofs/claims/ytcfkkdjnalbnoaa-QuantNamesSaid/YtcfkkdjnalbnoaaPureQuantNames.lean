/-
  reedpipelaw14.QuantNames' printed function answers true.
-/
import Derived.Test.YtcfkkdjnalbnoaaPrintN2
namespace Go.Proofs.Ytcfkkdjnalbnoaa.Pure
open Go.RowKit Go.Proofs.Ytcfkkdjnalbnoaa.PrintN Go.Proofs.YtcfkkdjnalbnoaaW.PrintWords Go.Proofs.YtcfkkdjnalbnoaaW.PrintLast

theorem QuantNames : reedpipelaw14_QuantNames.Pure := by
  unfold reedpipelaw14_QuantNames.Pure
  decide +kernel

end Go.Proofs.Ytcfkkdjnalbnoaa.Pure
