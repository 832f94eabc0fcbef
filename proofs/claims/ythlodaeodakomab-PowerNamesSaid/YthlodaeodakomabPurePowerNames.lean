/-
  The limits of package power have their numbers, and the chapter's examples are so.
-/
import Derived.Test.YthlodaeodakomabPrintP9
import Derived.Test.YthlodaeodakomabPp
namespace Go.Proofs.Ythlodaeodakomab.Pure
open Go.RowKit Go.Proofs.Ythlodaeodakomab.PrintP Go.Proofs.YthlodaeodakomabW.PrintWords Go.Proofs.YthlodaeodakomabW.PrintLast

theorem PowerNames : reedpipelaw07_PowerNames.Pure := by
  unfold reedpipelaw07_PowerNames.Pure reedpipelaw07_PowerNames.f
  have e1 : power_Four.f 1 = some (4096, 0) := by
    have : icb (1 * 68719476736) = 4096 := icb_eq (by decide) (by decide) (by decide) (by decide)
    unfold power_Four.f pw
    rw [if_pos (by decide), this]
    rfl
  have e0 : power_Four.f 0 = some (0, 0) := by
    unfold power_Four.f
    rw [if_pos (by decide), pw_zero]
  have l0 : ln 0 200 = 0 := by rw [ln_pos (by decide), ln0_zero]
  have q0 : qn 0 7 = 0 := by have := qn_neg 0 7; rw [Int.neg_zero] at this; omega
  rw [e0, e1, line_ok (q := 0) (s := 200) (by unfold inLine; decide), quant_ok (x := 0) (s := 7) (by unfold inQuant; decide), line_no (q := 1) (s := 256) (by unfold inLine; decide), alive07, l0, q0]
  rfl

end Go.Proofs.Ythlodaeodakomab.Pure
