/-
  Four steps more double a line, to 1, as long as it is not kept; the line of 8 times a number is 16 times its own, to 16 and a 4,096th part: any q, and step, without a condition.
-/
import Derived.Test.YthlodaeodakomabPrintP7
import Derived.Test.YthlodaeodakomabPp
namespace Go.Proofs.Ythlodaeodakomab.Pure
open Go.RowKit Go.Proofs.Ythlodaeodakomab.PrintP Go.Proofs.YthlodaeodakomabW.PrintWords Go.Proofs.YthlodaeodakomabW.PrintLast

theorem doubles_all {q s : Int} (h0 : -8191 ≤ q) (h1 : q ≤ 8191) (h2 : 0 ≤ s) (h3 : s + 4 ≤ 255) (hb : dist (ln q (s + 4)) 0 < 268435455) : -1 ≤ ln q (s + 4) - 2 * ln q s ∧ ln q (s + 4) - 2 * ln q s ≤ 1 := by
  have hbb : -268435455 < ln q (s + 4) ∧ ln q (s + 4) < 268435455 := by
    unfold dist mx at hb; split at hb <;> omega
  unfold ln at hbb ⊢
  by_cases h : q < 0
  · rw [if_pos h] at hbb
    rw [if_pos h, if_pos h]
    have := ln0_doubles (q := -q) (step := s) (by omega) (by omega) h2 h3 (by omega)
    omega
  · rw [if_neg h] at hbb
    rw [if_neg h, if_neg h]
    have := ln0_doubles (q := q) (step := s) (by omega) (by omega) h2 h3 (by omega)
    omega

theorem eight_all {q s : Int} (h0 : -8191 ≤ 8 * q) (h1 : 8 * q ≤ 8191) (hb : dist (ln (8 * q) s) 0 ≠ 268435455) : dist (ln (8 * q) s) (16 * ln q s) ≤ 16 + dist (ln (8 * q) s) 0 / 4096 := by
  have hbd := ln_bd (q := 8 * q) (step := s) h0 h1
  have hbb : -268435455 < ln (8 * q) s ∧ ln (8 * q) s < 268435455 := by
    unfold dist mx at hb; split at hb <;> omega
  unfold ln at hbb hbd ⊢
  by_cases h : q < 0
  · rw [if_pos (by omega)] at hbb hbd
    rw [if_pos (by omega), if_pos h]
    have e : -(8 * q) = 8 * -q := by omega
    rw [e] at hbb hbd ⊢
    have := ln0_eight (q := -q) (step := s) (by omega) (by omega) (by omega)
    unfold dist mx
    split <;> split <;> omega
  · rw [if_neg (by omega)] at hbb hbd
    rw [if_neg (by omega), if_neg h]
    have := ln0_eight (q := q) (step := s) (by omega) (by omega) (by omega)
    unfold dist mx
    split <;> split <;> omega

theorem PowerDoubles : reedpipelaw07_PowerDoubles.Pure := by
  intro q s hwq _
  refine ⟨4, ?_⟩
  unfold reedpipelaw07_PowerDoubles.f
  rw [alive07]
  simp only [Option.bind_some]
  have hj : ∀ a b, reedpipelaw07_PowerDoubles.j0 4 q s true a b true = some true := fun a b => by simp only [reedpipelaw07_PowerDoubles.j0, ↓reduceIte]
  by_cases h : inLine q s
  · rw [line_ok h]
    obtain ⟨h0, h1, h2, h3⟩ := h
    have e4 : wrap64 (s + 4) = s + 4 := by unfold wrap64; omega
    rw [e4]
    by_cases hs : s + 4 ≤ 255
    · rw [line_ok (q := q) (s := s + 4) ⟨h0, h1, by omega, hs⟩]
      simp only [Option.bind_some, ↓reduceIte, bne_self_eq_false]
      simp only [reedpipelaw07_PowerDoubles.j0, Bool.false_eq_true, ↓reduceIte]
      have ba := ln_bd (q := q) (step := s) h0 h1
      have bb := ln_bd (q := q) (step := s + 4) h0 h1
      rw [far_ok (by omega) (by omega) (by omega) (by omega)]
      simp only [Option.bind_some]
      have w1 : wrap64 (ln q (s + 4) - wrap64 (2 * ln q s)) = ln q (s + 4) - 2 * ln q s := by
        rw [show wrap64 (2 * ln q s) = 2 * ln q s from by unfold wrap64; omega]
        unfold wrap64; omega
      rw [w1]
      have hj1 : reedpipelaw07_PowerDoubles.j1 3 q s true (ln q s) false = some true := by
        simp only [reedpipelaw07_PowerDoubles.j1, Bool.false_eq_true, ↓reduceIte]
        have e8 : wrap64 (8 * q) = 8 * q := by unfold wrap64; omega
        rw [e8]
        by_cases h8 : inLine (8 * q) s
        · rw [line_ok h8]
          obtain ⟨g0, g1, _, _⟩ := h8
          have bc := ln_bd (q := 8 * q) (step := s) g0 g1
          simp only [Option.bind_some, ↓reduceIte]
          rw [far_ok (by omega) (by omega) (by omega) (by omega)]
          simp only [Option.bind_some, reedpipelaw07_PowerDoubles.j2]
          by_cases hk : dist (ln (8 * q) s) 0 = 268435455
          · rw [hk, if_pos (by decide)]
          · rw [if_neg (by simp; exact hk), if_pos trivial]
            have e16 : wrap64 (16 * ln q s) = 16 * ln q s := by unfold wrap64; omega
            rw [e16, far_ok (by omega) (by omega) (by omega) (by omega), far_ok (by omega) (by omega) (by omega) (by omega), far_ok (a := q) (by omega) (by omega) (by omega) (by omega)]
            simp only [Option.bind_some]
            have he := eight_all g0 g1 hk
            have hm : 1 ≤ mx (dist q 0) 1 := by unfold mx; split <;> omega
            have hd : 0 ≤ dist (ln (8 * q) s) 0 ∧ dist (ln (8 * q) s) 0 ≤ 268435455 := by unfold dist mx; split <;> omega
            generalize dist (ln (8 * q) s) 0 = d at *
            generalize mx (dist q 0) 1 = m at *
            have t1 : Int.tdiv d 4096 = d / 4096 := Int.tdiv_eq_ediv_of_nonneg hd.1
            have t2 : Int.tdiv d m = d / m := Int.tdiv_eq_ediv_of_nonneg hd.1
            have u0 : 0 ≤ d / m := Int.ediv_nonneg hd.1 (by omega)
            have u1 : d / m ≤ d := Int.ediv_le_self m hd.1
            have w2 : wrap64 (d / m) = d / m := by unfold wrap64; omega
            have t3 : Int.tdiv (d / m) 1024 = d / m / 1024 := Int.tdiv_eq_ediv_of_nonneg u0
            have w3 : wrap64 (d / 4096) = d / 4096 := by unfold wrap64; omega
            have w4 : wrap64 (d / m / 1024) = d / m / 1024 := by unfold wrap64; omega
            have w5 : wrap64 (16 + d / 4096) = 16 + d / 4096 := by unfold wrap64; omega
            have w6 : wrap64 (16 + d / 4096 + d / m / 1024) = 16 + d / 4096 + d / m / 1024 := by unfold wrap64; omega
            rw [if_neg (by omega), t1, t2, w2, t3, w3, w4, w5, w6, decide_eq_true (by omega)]
        · rw [line_no h8]
          simp only [Option.bind_some]
          rw [if_neg (by decide)]
          simp only [reedpipelaw07_PowerDoubles.j2, ↓reduceIte]
      by_cases hk : dist (ln q (s + 4)) 0 < 268435455
      · have hd := doubles_all h0 h1 h2 hs hk
        rw [if_pos hk, if_neg (by omega), decide_eq_false (by omega)]
        exact hj1
      · rw [if_neg hk]
        exact hj1
    · rw [line_no (q := q) (s := s + 4) (fun x => hs x.2.2.2)]
      simp only [Option.bind_some, ↓reduceIte]
      exact hj _ _
  · rw [line_no h]
    by_cases h4 : inLine q (wrap64 (s + 4))
    · rw [line_ok h4]
      simp only [Option.bind_some]
      rw [if_neg (by decide)]
      exact hj _ _
    · rw [line_no h4]
      simp only [Option.bind_some]
      rw [if_neg (by decide)]
      exact hj _ _

end Go.Proofs.Ythlodaeodakomab.Pure
