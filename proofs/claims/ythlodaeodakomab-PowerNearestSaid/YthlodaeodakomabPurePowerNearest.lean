/-
  No quantised line's line is nearer to a line than that of its quantised one; the quantised line of a quantised line's line has the same line; it rises as the line does: any two lines, step, and q, without a condition.
-/
import Derived.Test.YthlodaeodakomabPrintP20
import Derived.Test.YthlodaeodakomabPp
namespace Go.Proofs.Ythlodaeodakomab.Pure
open Go.RowKit Go.Proofs.Ythlodaeodakomab.PrintP Go.Proofs.YthlodaeodakomabW.PrintWords Go.Proofs.YthlodaeodakomabW.PrintLast

theorem PowerNearest : reedpipelaw07_PowerNearest.Pure := by
  intro x y s q _ _ _ _
  unfold reedpipelaw07_PowerNearest.f
  rw [alive07]
  simp only [Option.bind_some]
  by_cases h : inQuant x s
  · rw [quant_ok h]
    obtain ⟨h0, h1, h2, h3⟩ := h
    simp only [Option.bind_some, ↓reduceIte]
    have hq := qn_bd x s
    rw [line_ok (q := qn x s) (s := s) ⟨hq.1, hq.2, h2, h3⟩]
    simp only [Option.bind_some, ↓reduceIte]
    have hl := ln_bd (q := qn x s) (step := s) hq.1 hq.2
    have hy : (power_Quant.f y s).bind (fun r => if r.2 = 0 then (if x > y then some true else some (decide (qn x s ≤ r.1))) else some true) = some true := by
      by_cases hy : inQuant y s
      · rw [quant_ok hy]
        simp only [Option.bind_some, ↓reduceIte]
        by_cases hxy : x > y
        · rw [if_pos hxy]
        · rw [if_neg hxy, decide_eq_true (qn_mono s (by omega))]
      · rw [quant_no hy]
        simp only [Option.bind_some]
        rw [if_neg (by decide)]
    by_cases hq2 : inLine q s
    · rw [line_ok hq2]
      obtain ⟨g0, g1, _, _⟩ := hq2
      simp only [Option.bind_some, ↓reduceIte]
      have ho := ln_bd (q := q) (step := s) g0 g1
      rw [quant_ok (x := ln q s) (s := s) ⟨ho.1, ho.2, h2, h3⟩]
      simp only [Option.bind_some, ↓reduceIte]
      have hb := qn_bd (ln q s) s
      rw [line_ok (q := qn (ln q s) s) (s := s) ⟨hb.1, hb.2, h2, h3⟩]
      simp only [Option.bind_some, ↓reduceIte]
      rw [far_ok (by omega) (by omega) (by omega) (by omega), far_ok (by omega) (by omega) (by omega) (by omega)]
      simp only [Option.bind_some]
      have hn := nearest x s q g0 g1
      rw [if_neg (by omega), if_pos (again s q g0 g1)]
      exact hy
    · rw [line_no hq2]
      simp only [Option.bind_some]
      rw [if_neg (by decide)]
      exact hy
  · rw [quant_no h]
    unfold inQuant at h
    simp only [Option.bind_some]
    rw [if_neg (by decide), if_pos trivial, if_pos trivial]
    repeat' split
    all_goals first | rfl | (rw [decide_eq_true (by omega)])

end Go.Proofs.Ythlodaeodakomab.Pure
