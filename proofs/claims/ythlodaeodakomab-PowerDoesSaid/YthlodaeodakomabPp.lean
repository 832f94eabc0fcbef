/-
  What the printed functions of package power come to.
-/
import Derived.Test.YthlodaeodakomabPrintP1
import Derived.Test.YthlodaeodakomabPrintP6
import Derived.Test.YthlodaeodakomabM3
namespace Go.Proofs.Ythlodaeodakomab
open Go.RowKit Go.Proofs.YthlodaeodakomabW.PrintWords Go.Proofs.YthlodaeodakomabW.PrintLast PrintP

theorem four_eight : pw 8 = 65536 := by
  have : icb (8 * 68719476736) = 8192 := icb_eq (by decide) (by decide) (by decide) (by decide)
  unfold pw
  rw [this]
  rfl

theorem alive07 : reedpipelaw07_alive.f = some true := by
  unfold reedpipelaw07_alive.f power_Four.f
  rw [if_pos (by decide), four_eight]
  rfl

def inLine (q s : Int) : Prop := -8191 ≤ q ∧ q ≤ 8191 ∧ 0 ≤ s ∧ s ≤ 255
def inQuant (x s : Int) : Prop := -268435455 ≤ x ∧ x ≤ 268435455 ∧ 0 ≤ s ∧ s ≤ 255
theorem line_ok {q s : Int} (h : inLine q s) : power_Line.f q s = some (ln q s, 0) := by exact if_pos h
theorem line_no {q s : Int} (h : ¬ inLine q s) : power_Line.f q s = some (0, 2) := by exact if_neg h
theorem quant_ok {x s : Int} (h : inQuant x s) : power_Quant.f x s = some (qn x s, 0) := by exact if_pos h
theorem quant_no {x s : Int} (h : ¬ inQuant x s) : power_Quant.f x s = some (0, 2) := by exact if_neg h

theorem far_ok {a b : Int} (h0 : -5000000000 ≤ a) (h1 : a ≤ 5000000000) (h2 : -5000000000 ≤ b) (h3 : b ≤ 5000000000) : reedpipelaw07_far.f a b = some (dist a b) := by
  unfold reedpipelaw07_far.f dist
  rw [show wrap64 (a - b) = a - b from by unfold wrap64; omega, show wrap64 (b - a) = b - a from by unfold wrap64; omega]
end Go.Proofs.Ythlodaeodakomab
