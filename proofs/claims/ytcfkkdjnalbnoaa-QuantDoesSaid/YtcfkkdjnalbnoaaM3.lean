/-
  Plain facts on powers, lines and quantised lines.
-/
import Derived.Test.YtcfkkdjnalbnoaaMp
namespace Go.Proofs.Ytcfkkdjnalbnoaa
open Go.Proofs.YtcfkkdjnalbnoaaW.PrintWords Go.Proofs.YtcfkkdjnalbnoaaW.PrintMore

theorem rnd_double (m : Int) (b : Nat) : rnd (2 * m) (b + 1) = rnd m b := by
  have hp : (0 : Int) < 2 ^ b := Int.pow_pos (by omega)
  obtain ⟨h1, h2⟩ := rnd_bounds m b
  apply rnd_eq
  · rw [pow_split, Int.mul_assoc]; omega
  · rw [pow_split, Int.mul_assoc]; omega

theorem pw_mono {p q : Int} (h0 : 0 ≤ p) (h : p ≤ q) (h1 : q ≤ 8191) : pw p ≤ pw q := by
  unfold pw
  have := icb_mono (n := p * 68719476736) (m := q * 68719476736) (by omega) (by omega) (by omega)
  exact Int.mul_le_mul h this (icb_lt _).1 (by omega)

theorem icb_ge {q : Int} (h0 : 1 ≤ q) (h1 : q ≤ 8191) : 4096 ≤ icb (q * 68719476736) := by
  have e : icb 68719476736 = 4096 := icb_eq (by decide) (by decide) (by decide) (by decide)
  have := icb_mono (n := 68719476736) (m := q * 68719476736) (by omega) (by omega) (by omega)
  omega

theorem pw_ge {q : Int} (h0 : 1 ≤ q) (h1 : q ≤ 8191) : 4096 ≤ pw q := by
  have h := icb_ge h0 h1
  unfold pw
  have := Int.mul_le_mul h0 h (by omega) (by omega)
  omega

theorem pw_zero : pw 0 = 0 := by unfold pw; rw [Int.zero_mul]

theorem rnd_nil (b : Nat) : rnd 0 b = 0 := by
  have hp : (0 : Int) < 2 ^ b := Int.pow_pos (by omega)
  exact rnd_eq (by omega) (by omega)

theorem ln0_zero (step : Int) : ln0 0 step = 0 := by
  unfold ln0
  rw [pw_zero, Int.zero_mul, rnd_nil]
  rfl

theorem mn_mono {a b m : Int} (h : a ≤ b) : mn a m ≤ mn b m := by
  unfold mn; split <;> split <;> omega

theorem ln0_mono {p q : Int} (step : Int) (h0 : 0 ≤ p) (h : p ≤ q) (h1 : q ≤ 8191) : ln0 p step ≤ ln0 q step := by
  unfold ln0
  apply mn_mono
  apply rnd_mono
  have := gq_bd (step % 4)
  exact Int.mul_le_mul_of_nonneg_right (pw_mono h0 h h1) (by omega)

/-- From where on steps no longer shift, all lines but 0 are the greatest. -/
theorem ln0_top {q step : Int} (h0 : 1 ≤ q) (h1 : q ≤ 8191) (hs : sbits step = 0) : ln0 q step = 268435455 := by
  have hp := pw_ge h0 h1
  have hg := gq_bd (step % 4)
  unfold ln0
  rw [hs, rnd_zero]
  have := Int.mul_le_mul hp hg.1 (by omega) (by omega)
  unfold mn
  rw [if_pos (by omega)]

theorem ln0_step {q step : Int} (h0 : 0 ≤ q) (h1 : q ≤ 8191) (h2 : 0 ≤ step) (h3 : step < 255) : ln0 q step ≤ ln0 q (step + 1) := by
  by_cases hq : q = 0
  · subst hq; rw [ln0_zero, ln0_zero]; omega
  · by_cases hs : sbits (step + 1) = 0
    · rw [ln0_top (by omega) h1 hs]
      exact (ln0_bd q step h0 h1).2
    · obtain ⟨p0, p1⟩ := pw_bd q h0 h1
      unfold ln0
      apply mn_mono
      by_cases hm : step % 4 = 3
      · have e4 : (step + 1) % 4 = 0 := by omega
        have es : sbits step = sbits (step + 1) + 1 := by unfold sbits at hs ⊢; omega
        rw [hm, e4, es, ← rnd_double (pw q * gq 0)]
        apply rnd_mono
        have e3 : gq 3 = 1805811301 := rfl
        have e0 : gq 0 = 1073741824 := rfl
        rw [e3, e0]
        omega
      · have es : sbits step = sbits (step + 1) := by unfold sbits; omega
        rw [es]
        apply rnd_mono
        apply Int.mul_le_mul_of_nonneg_left _ p0
        have hc : step % 4 = 0 ∨ step % 4 = 1 ∨ step % 4 = 2 := by omega
        rcases hc with hc | hc | hc
        · rw [hc, show (step + 1) % 4 = 1 from by omega]; decide
        · rw [hc, show (step + 1) % 4 = 2 from by omega]; decide
        · rw [hc, show (step + 1) % 4 = 3 from by omega]; decide

theorem ln_neg (q step : Int) : ln (-q) step = -ln q step := by
  unfold ln
  by_cases h : q < 0
  · rw [if_neg (by omega), if_pos h]; omega
  · by_cases hz : q = 0
    · subst hz; rw [if_neg (by omega), if_neg (by omega), Int.neg_zero, ln0_zero]; rfl
    · rw [if_pos (by omega), if_neg h, Int.neg_neg]

theorem ln_pos {q step : Int} (h : 0 ≤ q) : ln q step = ln0 q step := by unfold ln; rw [if_neg (by omega)]

theorem ln_bd {q step : Int} (h0 : -8191 ≤ q) (h1 : q ≤ 8191) : -268435455 ≤ ln q step ∧ ln q step ≤ 268435455 := by
  unfold ln
  by_cases h : q < 0
  · rw [if_pos h]; have := ln0_bd (-q) step (by omega) (by omega); omega
  · rw [if_neg h]; have := ln0_bd q step (by omega) h1; omega

theorem ln_mono {p q : Int} (step : Int) (h0 : -8191 ≤ p) (h : p ≤ q) (h1 : q ≤ 8191) : ln p step ≤ ln q step := by
  unfold ln
  by_cases hp : p < 0
  · rw [if_pos hp]
    by_cases hq : q < 0
    · rw [if_pos hq]
      have := ln0_mono (p := -q) (q := -p) step (by omega) (by omega) (by omega); omega
    · rw [if_neg hq]
      have := ln0_bd (-p) step (by omega) (by omega)
      have := ln0_bd q step (by omega) h1; omega
  · rw [if_neg hp, if_neg (by omega)]
    exact ln0_mono step (by omega) h h1

theorem srch_spec (g : Int → Bool) (H : ∀ a b, a ≤ b → b < 8191 → 0 ≤ a → g a = true → g b = true) : ∀ (n : Nat) (i j : Int), 0 ≤ i → i ≤ j → j ≤ 8191 → j - i < n →
    (∀ q, i ≤ q → q < srch g n i j → g q = false) ∧ (∀ q, srch g n i j ≤ q → q < j → g q = true)
  | 0, i, j, _, h, _, hn => by omega
  | n + 1, i, j, hi, h, hj, hn => by
    simp only [srch]
    by_cases hlt : i < j
    · rw [if_pos hlt]
      by_cases hg : g ((i + j) / 2) = true
      · rw [if_pos hg]
        obtain ⟨a, b⟩ := srch_spec g H n i ((i + j) / 2) hi (by omega) (by omega) (by omega)
        refine ⟨a, fun q h1 h2 => ?_⟩
        by_cases hq : q < (i + j) / 2
        · exact b q h1 hq
        · exact H ((i + j) / 2) q (by omega) (by omega) (by omega) hg
      · rw [if_neg hg]
        obtain ⟨a, b⟩ := srch_spec g H n ((i + j) / 2 + 1) j (by omega) (by omega) hj (by omega)
        refine ⟨fun q h1 h2 => ?_, b⟩
        by_cases hq : (i + j) / 2 + 1 ≤ q
        · exact a q hq h2
        · cases hgq : g q with
          | false => rfl
          | true => exact absurd (H q ((i + j) / 2) (by omega) (by omega) (by omega) hgq) hg
    · rw [if_neg hlt]
      exact ⟨fun q h1 h2 => by omega, fun q h1 h2 => by omega⟩

theorem qtest_mono (x step : Int) : ∀ a b, a ≤ b → b < 8191 → 0 ≤ a → qtest x step a = true → qtest x step b = true := by
  intro a b h hb ha hg
  unfold qtest at *
  have h1 := ln0_mono (p := a) (q := b) step ha h (by omega)
  have h2 := ln0_mono (p := a + 1) (q := b + 1) step (by omega) (by omega) (by omega)
  have := of_decide_eq_true hg
  exact decide_eq_true (by omega)

theorem qn0_spec (x step : Int) : (∀ q, 0 ≤ q → q < qn0 x step → ln0 q step + ln0 (q + 1) step < 2 * x) ∧ (∀ q, qn0 x step ≤ q → q < 8191 → 2 * x ≤ ln0 q step + ln0 (q + 1) step) := by
  obtain ⟨a, b⟩ := srch_spec (qtest x step) (qtest_mono x step) 8192 0 8191 (by omega) (by omega) (by omega) (by omega)
  constructor
  · intro q h0 h1
    have := a q h0 h1
    unfold qtest at this
    have := of_decide_eq_false this
    omega
  · intro q h0 h1
    have := b q h0 h1
    unfold qtest at this
    exact of_decide_eq_true this

theorem qn_neg (x step : Int) : qn (-x) step = -qn x step := by
  unfold qn
  by_cases h : x < 0
  · rw [if_neg (by omega), if_pos h]; omega
  · by_cases hz : x = 0
    · subst hz
      have : qn0 0 step = 0 := by
        have hb := qn0_bd 0 step
        rcases Int.lt_or_le 0 (qn0 0 step) with hh | hh
        · have := (qn0_spec 0 step).1 0 (by omega) hh
          have := ln0_bd 0 step (by omega) (by omega)
          have := ln0_bd (0 + 1) step (by omega) (by omega)
          omega
        · omega
      rw [if_neg (by omega), if_neg (by omega), Int.neg_zero, this]; rfl
    · rw [if_pos (by omega), if_neg h, Int.neg_neg]

theorem qn_bd (x step : Int) : -8191 ≤ qn x step ∧ qn x step ≤ 8191 := by
  unfold qn
  by_cases h : x < 0
  · rw [if_pos h]; have := qn0_bd (-x) step; omega
  · rw [if_neg h]; have := qn0_bd x step; omega

/-- How far two numbers are apart. -/
def dist (a b : Int) : Int := mx (a - b) (b - a)

theorem dist_neg (a b : Int) : dist (-a) (-b) = dist a b := by unfold dist mx; split <;> split <;> omega

theorem nearest0 (x step q : Int) (hx : 0 ≤ x) (h0 : -8191 ≤ q) (h1 : q ≤ 8191) : dist x (ln (qn0 x step) step) ≤ dist x (ln q step) := by
  have hb := qn0_bd x step
  obtain ⟨s1, s2⟩ := qn0_spec x step
  unfold dist mx
  rcases Int.lt_trichotomy q (qn0 x step) with h | h | h
  · by_cases hz : qn0 x step = 0
    · rw [hz]
      have c := ln_mono (p := q) (q := 0) step h0 (by omega) (by omega)
      have e : ln 0 step = 0 := by rw [ln_pos (by omega), ln0_zero]
      rw [e] at c ⊢
      split <;> split <;> omega
    have a := s1 (qn0 x step - 1) (by omega) (by omega)
    have b := ln_mono (p := q) (q := qn0 x step - 1) step h0 (by omega) (by omega)
    have c := ln_mono (p := qn0 x step - 1) (q := qn0 x step) step (by omega) (by omega) (by omega)
    rw [show qn0 x step - 1 + 1 = qn0 x step from by omega, ← ln_pos (q := qn0 x step - 1) (by omega), ← ln_pos (q := qn0 x step) (by omega)] at a
    split <;> split <;> omega
  · rw [h]; omega
  · have a := s2 (qn0 x step) (by omega) (by omega)
    have b := ln_mono (p := qn0 x step + 1) (q := q) step (by omega) (by omega) h1
    have c := ln_mono (p := qn0 x step) (q := qn0 x step + 1) step (by omega) (by omega) (by omega)
    rw [← ln_pos (q := qn0 x step) (by omega), ← ln_pos (q := qn0 x step + 1) (by omega)] at a
    split <;> split <;> omega

/-- No quantised line's line is nearer to a number than that of its own. -/
theorem nearest (x step q : Int) (h0 : -8191 ≤ q) (h1 : q ≤ 8191) : dist x (ln (qn x step) step) ≤ dist x (ln q step) := by
  by_cases h : x < 0
  · have := nearest0 (-x) step (-q) (by omega) (by omega) (by omega)
    have e : qn0 (-x) step = -qn x step := by unfold qn; rw [if_pos h]; omega
    rw [e, ln_neg, ln_neg, dist_neg, dist_neg] at this
    exact this
  · have := nearest0 x step q (by omega) h0 h1
    have e : qn x step = qn0 x step := by unfold qn; rw [if_neg h]
    rw [e]
    exact this

/-- The quantised line of a quantised line's line has the same line. -/
theorem again (step q : Int) (h0 : -8191 ≤ q) (h1 : q ≤ 8191) : ln (qn (ln q step) step) step = ln q step := by
  have := nearest (ln q step) step q h0 h1
  unfold dist mx at this
  revert this
  split <;> split <;> omega

theorem qn_mono {x y : Int} (step : Int) (h : x ≤ y) : qn x step ≤ qn y step := by
  have key : ∀ a b : Int, 0 ≤ a → a ≤ b → qn0 a step ≤ qn0 b step := by
    intro a b ha hab
    have ba := qn0_bd a step
    have bb := qn0_bd b step
    rcases Int.lt_or_le (qn0 b step) (qn0 a step) with hh | hh
    · have h1 := (qn0_spec a step).1 (qn0 b step) (by omega) hh
      have h2 := (qn0_spec b step).2 (qn0 b step) (by omega) (by omega)
      omega
    · exact hh
  unfold qn
  by_cases hx : x < 0
  · rw [if_pos hx]
    by_cases hy : y < 0
    · rw [if_pos hy]; have := key (-y) (-x) (by omega) (by omega); omega
    · rw [if_neg hy]
      have := qn0_bd (-x) step
      have := qn0_bd y step; omega
  · rw [if_neg hx, if_neg (by omega)]
    exact key x y (by omega) h

theorem ln0_doubles {q step : Int} (h0 : 0 ≤ q) (h1 : q ≤ 8191) (_h2 : 0 ≤ step) (_h3 : step + 4 ≤ 255) (hb : ln0 q (step + 4) < 268435455) : -1 ≤ ln0 q (step + 4) - 2 * ln0 q step ∧ ln0 q (step + 4) - 2 * ln0 q step ≤ 1 := by
  by_cases hq : q = 0
  · subst hq; rw [ln0_zero, ln0_zero]; omega
  · by_cases hs : sbits (step + 4) = 0 ∧ sbits step = 0
    · rw [ln0_top (by omega) h1 hs.1] at hb; omega
    · have em : (step + 4) % 4 = step % 4 := by omega
      have es : sbits step = sbits (step + 4) + 1 := by unfold sbits at hs ⊢; omega
      have hu : ln0 q (step + 4) = rnd (pw q * gq (step % 4)) (sbits (step + 4)) := by
        unfold ln0 mn at hb ⊢
        rw [em] at hb ⊢
        split at hb
        · omega
        · rw [if_neg (by assumption)]
      have hl := ln0_mono (p := q) (q := q) step h0 (by omega) h1
      have hv : ln0 q step = rnd (pw q * gq (step % 4)) (sbits step) := by
        have hle : rnd (pw q * gq (step % 4)) (sbits step) ≤ rnd (pw q * gq (step % 4)) (sbits (step + 4)) := by
          obtain ⟨p0, p1⟩ := pw_bd q h0 h1
          have hg := gq_bd (step % 4)
          have m0 : 0 ≤ pw q * gq (step % 4) := Int.mul_nonneg p0 (by omega)
          rw [es, ← rnd_double (pw q * gq (step % 4)) (sbits (step + 4))]
          exact rnd_mono _ (by omega)
        unfold ln0 mn
        rw [if_neg (by omega)]
      rw [hu, hv, es]
      generalize pw q * gq (step % 4) = n
      generalize sbits (step + 4) = b
      have hp : (0 : Int) < 2 ^ b := Int.pow_pos (by omega)
      obtain ⟨a1, a2⟩ := rnd_bounds n b
      obtain ⟨b1, b2⟩ := rnd_bounds n (b + 1)
      rw [pow_split, Int.mul_assoc] at b1 b2
      generalize rnd n b = u at *
      generalize rnd n (b + 1) = v at *
      have e : 2 ^ b * (u - 2 * v) = 2 ^ b * u - 2 * (2 ^ b * v) := by rw [Int.mul_sub, Int.mul_left_comm]
      generalize u - 2 * v = t at *
      constructor
      · rcases Int.lt_or_le t (-1) with h | h
        · have : 2 ^ b * t ≤ 2 ^ b * (-2) := Int.mul_le_mul_of_nonneg_left (by omega) (by omega)
          omega
        · exact h
      · rcases Int.lt_or_le 1 t with h | h
        · have : 2 ^ b * 2 ≤ 2 ^ b * t := Int.mul_le_mul_of_nonneg_left (by omega) (by omega)
          omega
        · exact h

theorem icb_eight {q : Int} (h0 : 0 ≤ q) (h1 : 8 * q ≤ 8191) : icb (8 * q * 68719476736) = 2 * icb (q * 68719476736) ∨ icb (8 * q * 68719476736) = 2 * icb (q * 68719476736) + 1 := by
  obtain ⟨a0, a1, a2⟩ := icb_spec (q * 68719476736) (by omega) (by omega)
  obtain ⟨b0, b1, b2⟩ := icb_spec (8 * q * 68719476736) (by omega) (by omega)
  generalize icb (q * 68719476736) = r at *
  generalize icb (8 * q * 68719476736) = s at *
  have c1 : 2 * r ≤ s := by
    rcases Int.lt_or_le s (2 * r) with h | h
    · have := cb_le (a := s + 1) (b := 2 * r) (by omega) (by omega)
      have e : 2 * r * (2 * r) * (2 * r) = 8 * (r * r * r) := by
        rw [show 2 * r * (2 * r) = 4 * (r * r) from by rw [Int.mul_assoc, Int.mul_left_comm r 2 r]; omega, show 4 * (r * r) * (2 * r) = 8 * (r * r * r) from by rw [Int.mul_assoc, Int.mul_left_comm (r * r) 2 r]; omega]
      omega
    · exact h
  have c2 : s < 2 * r + 2 := by
    rcases Int.lt_or_le s (2 * r + 2) with h | h
    · exact h
    · have := cb_le (a := 2 * (r + 1)) (b := s) (by omega) (by omega)
      have e : 2 * (r + 1) * (2 * (r + 1)) * (2 * (r + 1)) = 8 * ((r + 1) * (r + 1) * (r + 1)) := by
        generalize r + 1 = t
        rw [show 2 * t * (2 * t) = 4 * (t * t) from by rw [Int.mul_assoc, Int.mul_left_comm t 2 t]; omega, show 4 * (t * t) * (2 * t) = 8 * (t * t * t) from by rw [Int.mul_assoc, Int.mul_left_comm (t * t) 2 t]; omega]
      omega
  omega

theorem ln0_eight {q step : Int} (h0 : 0 ≤ q) (h1 : 8 * q ≤ 8191) (hc : ln0 (8 * q) step < 268435455) :
    -16 ≤ ln0 (8 * q) step - 16 * ln0 q step ∧ ln0 (8 * q) step - 16 * ln0 q step ≤ 16 + ln0 (8 * q) step / 4096 := by
  have hcb := ln0_bd (8 * q) step (by omega) h1
  obtain ⟨p0, p1⟩ := pw_bd q h0 (by omega)
  have hg := gq_bd (step % 4)
  have hle := ln0_mono (p := q) (q := 8 * q) step h0 (by omega) h1
  have hu : ln0 (8 * q) step = rnd (pw (8 * q) * gq (step % 4)) (sbits step) := by
    unfold ln0 mn at hc ⊢
    split at hc
    · omega
    · rw [if_neg (by assumption)]
  have hv : ln0 q step = rnd (pw q * gq (step % 4)) (sbits step) := by
    have := rnd_mono (sbits step) (Int.mul_le_mul_of_nonneg_right (pw_mono (p := q) (q := 8 * q) h0 (by omega) h1) (show 0 ≤ gq (step % 4) by omega))
    unfold ln0 mn
    rw [if_neg (by omega)]
  have he := icb_eight h0 h1
  have hT : ∃ T : Int, 0 ≤ T ∧ (pw (8 * q) * gq (step % 4) = 16 * (pw q * gq (step % 4)) ∨ pw (8 * q) * gq (step % 4) = 16 * (pw q * gq (step % 4)) + T) ∧ 8192 * T ≤ pw (8 * q) * gq (step % 4) := by
    refine ⟨8 * q * gq (step % 4), Int.mul_nonneg (by omega) (by omega), ?_, ?_⟩
    · unfold pw
      generalize gq (step % 4) = g at *
      generalize icb (q * 68719476736) = r at *
      rcases he with he | he
      · left
        rw [he]
        rw [show 8 * q * (2 * r) = 16 * (q * r) from by rw [Int.mul_left_comm (8 * q) 2 r, Int.mul_assoc]; omega, Int.mul_assoc]
      · right
        rw [he]
        rw [show 8 * q * (2 * r + 1) = 16 * (q * r) + 8 * q from by rw [Int.mul_add, Int.mul_left_comm (8 * q) 2 r, Int.mul_assoc]; omega, Int.add_mul, Int.mul_assoc]
    · by_cases hq : q = 0
      · subst hq; simp [pw_zero]
      · have h8 : 8192 ≤ icb (8 * q * 68719476736) := by
          have := icb_ge (q := q) (by omega) (by omega)
          omega
        unfold pw
        have := Int.mul_le_mul_of_nonneg_left h8 (show 0 ≤ 8 * q by omega)
        have := Int.mul_le_mul_of_nonneg_right this (show 0 ≤ gq (step % 4) by omega)
        have e : 8 * q * 8192 * gq (step % 4) = 8192 * (8 * q * gq (step % 4)) := by rw [Int.mul_comm (8 * q) 8192, Int.mul_assoc]
        omega
  obtain ⟨T, t0, t1, t2⟩ := hT
  rw [hu, hv]
  rw [hu] at hcb
  generalize pw (8 * q) * gq (step % 4) = n8 at *
  generalize pw q * gq (step % 4) = n at *
  generalize sbits step = b at *
  have hp : (0 : Int) < 2 ^ b := Int.pow_pos (by omega)
  obtain ⟨a1, a2⟩ := rnd_bounds n8 b
  obtain ⟨b1, b2⟩ := rnd_bounds n b
  generalize rnd n8 b = c at *
  generalize rnd n b = a at *
  generalize (2 : Int) ^ b = P at *
  have e : P * (c - 16 * a) = P * c - 16 * (P * a) := by rw [Int.mul_sub, Int.mul_left_comm]
  generalize hd : c - 16 * a = d at *
  constructor
  · rcases Int.lt_or_le d (-16) with h | h
    · have : P * d ≤ P * (-17) := Int.mul_le_mul_of_nonneg_left (by omega) (by omega)
      omega
    · exact h
  · have k1 : 16384 * (P * d) < 2 * (P * c) + 139265 * P := by omega
    have k2 : P * (16384 * d) < P * (2 * c + 139265) := by
      rw [Int.mul_add, Int.mul_left_comm P 16384 d, Int.mul_left_comm P 2 c, Int.mul_comm P 139265]
      omega
    have k3 := Int.lt_of_mul_lt_mul_left k2 (by omega)
    omega
end Go.Proofs.Ytcfkkdjnalbnoaa
