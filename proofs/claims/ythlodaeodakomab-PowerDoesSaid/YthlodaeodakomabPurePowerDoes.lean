/-
  Powers, lines and quantised lines are as the document says: any numbers, without a condition.
-/
import Derived.Test.YthlodaeodakomabPrintP19
import Derived.Test.YthlodaeodakomabPp
import Derived.Test.YthlodaeodakomabRtNear
namespace Go.Proofs.Ythlodaeodakomab.Pure
open Go.RowKit Go.Proofs.Ythlodaeodakomab.PrintP Go.Proofs.YthlodaeodakomabW.PrintWords Go.Proofs.YthlodaeodakomabW.PrintLast

theorem four_same (q : Int) : ∃ r, power_Four.f q = some r ∧ reedpiperef07_Four.f 9000 q = some r := by
  unfold power_Four.f reedpiperef07_Four.f
  by_cases h : 0 ≤ q ∧ q ≤ 8191
  · refine ⟨_, if_pos h, ?_⟩
    rw [if_neg (by omega), if_neg (by omega), power_ref 9000 q (by omega) h.1 h.2]
    rfl
  · refine ⟨_, if_neg h, ?_⟩
    by_cases h0 : q < 0
    · rw [if_pos h0]
    · rw [if_neg h0, if_pos (by omega)]

theorem line_same (q s : Int) : ∃ r, power_Line.f q s = some r ∧ reedpiperef07_Line.f 9000 q s = some r := by
  unfold reedpiperef07_Line.f
  by_cases h : inLine q s
  · refine ⟨_, line_ok h, ?_⟩
    obtain ⟨h0, h1, h2, h3⟩ := h
    rw [if_neg (by omega), if_neg (by omega), if_neg (by omega), if_neg (by omega), value_ref 9000 q s (by omega) h0 h1 h2 h3]
    rfl
  · refine ⟨_, line_no h, ?_⟩
    unfold inLine at h
    repeat' split
    all_goals first | rfl | omega

theorem quant_same (x s : Int) : ∃ r, power_Quant.f x s = some r ∧ reedpiperef07_Quant.f 9000 x s = some r := by
  unfold reedpiperef07_Quant.f
  by_cases h : inQuant x s
  · refine ⟨_, quant_ok h, ?_⟩
    obtain ⟨h0, h1, h2, h3⟩ := h
    rw [if_neg (by omega), if_neg (by omega), if_neg (by omega), if_neg (by omega), near_ref 9000 x s (by omega) h0 h1 h2 h3]
    rfl
  · refine ⟨_, quant_no h, ?_⟩
    unfold inQuant at h
    repeat' split
    all_goals first | rfl | omega

theorem PowerDoes : reedpipelaw07_PowerDoes.Pure := by
  intro q x s _ _ _
  refine ⟨9000, ?_⟩
  obtain ⟨r1, a1, b1⟩ := four_same q
  obtain ⟨r2, a2, b2⟩ := line_same q s
  obtain ⟨r3, a3, b3⟩ := quant_same x s
  unfold reedpipelaw07_PowerDoes.f
  rw [a1, b1, a2, b2, a3, b3]
  simp

end Go.Proofs.Ythlodaeodakomab.Pure
