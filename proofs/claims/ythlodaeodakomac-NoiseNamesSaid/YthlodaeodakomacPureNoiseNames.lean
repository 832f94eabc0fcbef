/-
  The errors of package noise have their numbers, and the chapter's examples are so.
-/
import Derived.Test.YthlodaeodakomacPrintN8
namespace Go.Proofs.Ythlodaeodakomac.Pure
open Go.RowKit Go.Proofs.Ythlodaeodakomac.PrintN Go.Proofs.YthlodaeodakomacW.PrintWords Go.Proofs.YthlodaeodakomacW.PrintLast

theorem NoiseNames : reedpipelaw16_NoiseNames.Pure := ⟨30, by decide +kernel⟩

end Go.Proofs.Ythlodaeodakomac.Pure
