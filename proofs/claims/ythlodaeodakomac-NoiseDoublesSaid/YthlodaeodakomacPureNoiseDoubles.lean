/-
  Four steps more double noise, to 2, as long as the line of 1 is not kept; steps above 255 are as 255: any seed, step and many, without a condition.
-/
import Derived.Test.YthlodaeodakomacPrintN6
import Derived.Test.YthlodaeodakomacPn
namespace Go.Proofs.Ythlodaeodakomac.Pure
open Go.RowKit Go.Proofs.Ythlodaeodakomac.PrintN Go.Proofs.YthlodaeodakomacW.PrintWords Go.Proofs.YthlodaeodakomacW.PrintLast

theorem same_loop (t : Bool) (x : List Int) (hx : x.length ≤ 256) : ∀ (d k i : Nat), i ≤ x.length → x.length - i = d → d < k → reedpipelaw16_NoiseDoubles.l0 k t x x i = some t := by
  intro d
  induction d with
  | zero =>
    intro k i hi hd hk
    obtain ⟨k, rfl⟩ : ∃ m, k = m + 1 := ⟨k - 1, by omega⟩
    simp only [reedpipelaw16_NoiseDoubles.l0]
    rw [if_neg (by omega)]
  | succ d ih =>
    intro k i hi hd hk
    obtain ⟨k, rfl⟩ : ∃ m, k = m + 1 := ⟨k - 1, by omega⟩
    simp only [reedpipelaw16_NoiseDoubles.l0]
    have e : wrap64 ((i : Int) + 1) = ((i + 1 : Nat) : Int) := by unfold wrap64; omega
    rw [if_pos (by omega), if_pos (by omega), if_pos (by omega), if_pos trivial, e]
    exact ih k (i + 1) (by omega) (by omega) (by omega)

theorem twice_loop (t : Bool) (x y : List Int) (hx : x.length ≤ 256) (hy : y.length = x.length) (H : ∀ i : Nat, i < x.length → -2 ≤ rd y i - 2 * rd x i ∧ rd y i - 2 * rd x i ≤ 2 ∧ -268435455 ≤ rd x i ∧ rd x i ≤ 268435455) : ∀ (d k i : Nat), i ≤ x.length → x.length - i = d → d < k → reedpipelaw16_NoiseDoubles.l1 k t x y i = some t := by
  intro d
  induction d with
  | zero =>
    intro k i hi hd hk
    obtain ⟨k, rfl⟩ : ∃ m, k = m + 1 := ⟨k - 1, by omega⟩
    simp only [reedpipelaw16_NoiseDoubles.l1]
    rw [if_neg (by omega)]
  | succ d ih =>
    intro k i hi hd hk
    obtain ⟨k, rfl⟩ : ∃ m, k = m + 1 := ⟨k - 1, by omega⟩
    have hn := ih k (i + 1) (by omega) (by omega) (by omega)
    have e : wrap64 ((i : Int) + 1) = ((i + 1 : Nat) : Int) := by unfold wrap64; omega
    have b1 : (i : Int) < (x.length : Int) := by omega
    have b2 : (0 : Int) ≤ (i : Int) := by omega
    have b3 : (i : Int) < (y.length : Int) := by omega
    have hi4 := H i (by omega)
    clear H ih
    simp only [reedpipelaw16_NoiseDoubles.l1]
    rw [if_pos b1, if_pos b2, if_pos b3, e, hn]
    generalize rd x (i : Int) = p at *
    generalize rd y (i : Int) = q at *
    obtain ⟨h1, h2, h3, h4⟩ := hi4
    have w1 : wrap64 (2 * p) = 2 * p := by unfold wrap64; omega
    have w2 : wrap64 (q - 2 * p) = q - 2 * p := by unfold wrap64; omega
    rw [w1, w2, if_neg (by omega), if_neg (by omega)]

theorem NoiseDoubles : reedpipelaw16_NoiseDoubles.Pure := by
  intro s step many hs _ _
  have hs := seed_wf hs
  refine ⟨400, ?_⟩
  unfold reedpipelaw16_NoiseDoubles.f
  rw [alive16 400 (by omega)]
  simp only [Option.bind_some]
  by_cases h1 : step < 0 ∨ 511 < step
  · rw [band_arg hs h1]
    simp only [Option.bind_some]
    rw [if_neg (by decide)]
  · by_cases hm : many < 0 ∨ 256 < many
    · rw [band_many hs h1 hm]
      simp only [Option.bind_some]
      rw [if_neg (by decide)]
    · rw [band_ok hs h1 hm]
      simp only [Option.bind_some, ↓reduceIte]
      have hl := bandl_length s step many.toNat
      by_cases h2 : step ≥ 255
      · rw [if_pos h2, band_ok hs (by omega) hm]
        simp only [Option.bind_some, ↓reduceIte]
        have e : bandl s 255 many.toNat = bandl s step many.toNat := by
          have e1 : mn step 255 = 255 := by unfold mn; split <;> omega
          unfold bandl
          rw [e1]
          rfl
        rw [e, show (((bandl s step many.toNat).length : Int) != ((bandl s step many.toNat).length : Int)) = false from bne_self_eq_false _]
        simp only [reedpipelaw16_NoiseDoubles.j0, Bool.false_eq_true, ↓reduceIte]
        exact same_loop true _ (by omega) _ 399 0 (Nat.zero_le _) rfl (by omega)
      · have e4 : wrap64 (step + 4) = step + 4 := by unfold wrap64; omega
        rw [if_neg h2, e4, band_ok hs (by omega) hm]
        have l1 : power_Line.f 1 step = some (ln 1 step, 0) := by unfold power_Line.f; rw [if_pos ⟨by omega, by omega, by omega, by omega⟩]
        have hmn : 0 ≤ mn (step + 4) 255 ∧ mn (step + 4) 255 ≤ 255 := by unfold mn; split <;> omega
        have l2 : power_Line.f 1 (mn (step + 4) 255) = some (ln 1 (mn (step + 4) 255), 0) := by unfold power_Line.f; rw [if_pos ⟨by omega, by omega, hmn.1, hmn.2⟩]
        rw [l1, l2]
        simp only [Option.bind_some, ↓reduceIte]
        have hl2 := bandl_length s (step + 4) many.toNat
        rw [show (((bandl s step many.toNat).length : Int) != ((bandl s (step + 4) many.toNat).length : Int)) = false from by rw [hl, hl2]; exact bne_self_eq_false _]
        simp only [reedpipelaw16_NoiseDoubles.j2, Bool.false_eq_true, ↓reduceIte]
        have hj : ∀ x y, reedpipelaw16_NoiseDoubles.j3 399 true x y true = some true := fun x y => by simp only [reedpipelaw16_NoiseDoubles.j3, ↓reduceIte]
        by_cases h3 : step > 251
        · rw [if_pos h3]; exact hj _ _
        · rw [if_neg h3]
          have em : mn (step + 4) 255 = step + 4 := by unfold mn; rw [if_neg (by omega)]
          have em2 : mn step 255 = step := by unfold mn; rw [if_neg (by omega)]
          rw [em]
          by_cases h4 : ln 1 (step + 4) = 268435455
          · rw [if_pos h4]; exact hj _ _
          · rw [if_neg h4]
            by_cases h5 : ln 1 step > ln 1 (step + 4)
            · rw [decide_eq_true h5]; exact hj _ _
            · rw [decide_eq_false h5]
              simp only [reedpipelaw16_NoiseDoubles.j3, Bool.false_eq_true, ↓reduceIte]
              have hb := ln0_bd 1 (step + 4) (by omega) (by omega)
              have hd := ln0_doubles (q := 1) (step := step) (by omega) (by omega) (by omega) (by omega) (by rw [ln_pos (by omega)] at h4; omega)
              rw [← ln_pos (q := 1) (by omega), ← ln_pos (q := 1) (by omega)] at hd
              refine twice_loop true _ _ (by omega) (by omega) (fun i hi => ?_) _ 398 0 (Nat.zero_le _) rfl (by omega)
              rw [hl] at hi
              obtain ⟨d0, d1⟩ := draw_rd s many.toNat i (by omega) hi
              have hbd := band_bd s step many.toNat i (by omega) hi
              rw [band_rd s step many.toNat i hi, em2] at hbd ⊢
              rw [band_rd s (step + 4) many.toNat i hi, em]
              have := nl_doubles (ln 1 step) (ln 1 (step + 4)) (rootOf s many.toNat) (rd (draws many.toNat s) i) d0 d1 hd
              omega

end Go.Proofs.Ythlodaeodakomac.Pure
