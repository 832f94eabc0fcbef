/-
  Lines rise as q does, and, away from 0, as the step does; they turn sign with q; they are at most MaxLine: any q, and step, without a condition.
-/
import Derived.Test.YthlodaeodakomabPrintP5
import Derived.Test.YthlodaeodakomabPp
namespace Go.Proofs.Ythlodaeodakomab.Pure
open Go.RowKit Go.Proofs.Ythlodaeodakomab.PrintP Go.Proofs.YthlodaeodakomabW.PrintWords Go.Proofs.YthlodaeodakomabW.PrintLast

theorem rises_j1 (k : Nat) (q s : Int) (h : inLine q s) : reedpipelaw07_PowerRises.j1 (k + 1) q s true (ln q s) false = some true := by
  obtain ⟨h0, h1, h2, h3⟩ := h
  simp only [reedpipelaw07_PowerRises.j1, Bool.false_eq_true, ↓reduceIte]
  by_cases hs : s = 255
  · rw [if_pos hs]
  · have e : wrap64 (s + 1) = s + 1 := by unfold wrap64; omega
    rw [if_neg hs, e, line_ok (q := q) (s := s + 1) ⟨h0, h1, by omega, by omega⟩]
    simp only [Option.bind_some, ↓reduceIte]
    by_cases hq : q < 0
    · have := ln0_step (q := -q) (step := s) (by omega) (by omega) h2 (by omega)
      have e1 : ln q s = -ln0 (-q) s := by unfold ln; rw [if_pos hq]
      have e2 : ln q (s + 1) = -ln0 (-q) (s + 1) := by unfold ln; rw [if_pos hq]
      rw [if_pos hq, if_neg (by omega), decide_eq_true (by omega)]
    · have := ln0_step (q := q) (step := s) (by omega) h1 h2 (by omega)
      have e1 : ln q s = ln0 q s := ln_pos (by omega)
      have e2 : ln q (s + 1) = ln0 q (s + 1) := ln_pos (by omega)
      rw [if_neg hq, if_pos (by omega)]
      by_cases hq0 : q > 0
      · rw [if_pos hq0]
      · have hz : q = 0 := by omega
        subst hz
        have e3 : ln 0 (s + 1) ≤ ln 0 s := by rw [e1, e2, ln0_zero, ln0_zero]; exact Int.le_refl _
        rw [if_neg (by decide), decide_eq_true e3]

theorem PowerRises : reedpipelaw07_PowerRises.Pure := by
  intro q s _ _
  refine ⟨3, ?_⟩
  unfold reedpipelaw07_PowerRises.f
  rw [alive07]
  simp only [Option.bind_some]
  by_cases h : inLine q s
  · rw [line_ok h]
    obtain ⟨h0, h1, h2, h3⟩ := h
    have en : wrap64 (-q) = -q := by unfold wrap64; omega
    simp only [Option.bind_some, ↓reduceIte]
    rw [en, line_ok (q := -q) (s := s) ⟨by omega, by omega, h2, h3⟩]
    simp only [Option.bind_some, ↓reduceIte]
    have hb := ln_bd (q := q) (step := s) h0 h1
    rw [ln_neg]
    have e1 : wrap64 (- -ln q s) = ln q s := by unfold wrap64; omega
    rw [e1, if_pos rfl, if_neg (by omega), decide_eq_false (by omega)]
    simp only [reedpipelaw07_PowerRises.j0, Bool.false_eq_true, ↓reduceIte]
    by_cases hq1 : q < 8191
    · have e2 : wrap64 (q + 1) = q + 1 := by unfold wrap64; omega
      rw [if_pos hq1, e2, line_ok (q := q + 1) (s := s) ⟨by omega, by omega, h2, h3⟩]
      simp only [Option.bind_some, ↓reduceIte]
      have := ln_mono (p := q) (q := q + 1) s h0 (by omega) (by omega)
      rw [decide_eq_false (by omega)]
      exact rises_j1 1 q s ⟨h0, h1, h2, h3⟩
    · have := rises_j1 1 q s ⟨h0, h1, h2, h3⟩
      simp only [reedpipelaw07_PowerRises.j1, Bool.false_eq_true, ↓reduceIte] at this
      rw [if_neg hq1]
      exact this
  · rw [line_no h]
    unfold inLine at h
    simp only [Option.bind_some]
    rw [if_neg (by decide), if_pos trivial, if_pos trivial]
    repeat' split
    all_goals first | rfl | (rw [decide_eq_true (by omega)])

end Go.Proofs.Ythlodaeodakomab.Pure
