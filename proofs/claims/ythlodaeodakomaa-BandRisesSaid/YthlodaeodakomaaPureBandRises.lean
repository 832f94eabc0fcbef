/-
  Offsets rise, from 0 to the window's lines, by fours; no band but the last one is narrower than the one ahead; there are at most 40 of a long window, and 15 of a short one: any rate and kind of window, without a condition.
-/
import Derived.Test.YthlodaeodakomaaPrintB3
namespace Go.Proofs.Ythlodaeodakomaa.Pure
open Go.RowKit Go.Proofs.Ythlodaeodakomaa.PrintB Go.Proofs.YthlodaeodakomaaW.PrintWords Go.Proofs.YthlodaeodakomaaW.PrintLast

theorem BandRises : reedpipelaw06_BandRises.Pure := by
  intro rate short _
  refine ⟨400, ?_⟩
  by_cases h : 0 ≤ rate ∧ rate ≤ 11
  · have hc : rate = 0 ∨ rate = 1 ∨ rate = 2 ∨ rate = 3 ∨ rate = 4 ∨ rate = 5 ∨ rate = 6 ∨ rate = 7 ∨ rate = 8 ∨ rate = 9 ∨ rate = 10 ∨ rate = 11 := by omega
    rcases hc with rfl | rfl | rfl | rfl | rfl | rfl | rfl | rfl | rfl | rfl | rfl | rfl <;> cases short <;> decide +kernel
  · have e : band_Offsets.f rate short = some ([], 2) := by
      unfold band_Offsets.f
      by_cases h1 : rate < 0
      · rw [if_pos h1]
      · rw [if_neg h1, if_pos (by omega)]
    have ea : reedpipelaw06_alive.f 400 = some true := by decide +kernel
    unfold reedpipelaw06_BandRises.f
    rw [ea, e]
    simp only [Option.bind_some]
    rw [if_neg (by decide)]
    simp only [reedpipelaw06_BandRises.j0, ↓reduceIte]
    by_cases h1 : rate < 0
    · rw [if_pos h1]; decide
    · rw [if_neg h1, if_pos (by omega)]; decide

end Go.Proofs.Ythlodaeodakomaa.Pure
