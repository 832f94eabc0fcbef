/-
  The limits' numbers, and the examples of the chapter on bands.
-/
import Derived.Test.YthlodaeodakomaaPrintB12
namespace Go.Proofs.Ythlodaeodakomaa.Pure
open Go.RowKit Go.Proofs.Ythlodaeodakomaa.PrintB Go.Proofs.YthlodaeodakomaaW.PrintWords Go.Proofs.YthlodaeodakomaaW.PrintLast

theorem BandNames : reedpipelaw06_BandNames.Pure := ⟨20, by decide +kernel⟩

end Go.Proofs.Ythlodaeodakomaa.Pure
