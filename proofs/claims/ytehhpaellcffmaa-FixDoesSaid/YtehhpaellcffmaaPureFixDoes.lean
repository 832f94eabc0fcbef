/-
  Numbers are rounded, kept, and their roots told as the document says: for any number and any bits, without a condition.
-/
import Derived.Test.YtehhpaellcffmaaPrintF16
import Derived.Test.YtehhpaellcffmaaPf
namespace Go.Proofs.Ytehhpaellcffmaa.Pure
open Go.RowKit Go.Proofs.Ytehhpaellcffmaa.PrintF Go.Proofs.YtehhpaellcffmaaW.PrintWords Go.Proofs.YtehhpaellcffmaaW.PrintLast

theorem pow_bd (j : Nat) (h : j ≤ 61) : (0 : Int) < 2 ^ j ∧ (2 : Int) ^ j ≤ 2305843009213693952 := by
  have h61 : (2 : Int) ^ 61 = 2305843009213693952 := by decide
  obtain ⟨d, hd⟩ := Nat.exists_eq_add_of_le h
  have hp : (0 : Int) < 2 ^ j := Int.pow_pos (by omega)
  have hq : (0 : Int) < 2 ^ d := Int.pow_pos (by omega)
  rw [hd, Int.pow_add] at h61
  have := Int.mul_le_mul_of_nonneg_left (show (1 : Int) ≤ 2 ^ d by omega) (show (0 : Int) ≤ 2 ^ j by omega)
  omega

theorem shl_one (j : Nat) (h : j ≤ 61) : shl .i64 1 j = 2 ^ j := by
  obtain ⟨a, b⟩ := pow_bd j h
  unfold shl
  rw [Nat.min_eq_left (by simp [IntKind.bits]; omega), IntKind.wrap_i64, Int.toNat_natCast]
  omega

/-- As the document rounds. -/
theorem down_ref (n : Int) (b : Nat) (h0 : -4611686018427387904 ≤ n) (h1 : n ≤ 4611686018427387904) (hb : b ≤ 62) : reedpiperef03_Down.f n b = some (rnd n b) := by
  unfold reedpiperef03_Down.f
  cases b with
  | zero => rw [if_pos (by decide), rnd_zero]
  | succ j =>
    obtain ⟨p0, p1⟩ := pow_bd j (by omega)
    have ew : wrap64 (((j + 1 : Nat) : Int) - 1) = j := by unfold wrap64; omega
    rw [if_neg (by omega), ew, if_pos (by omega), if_pos (by omega), shl_one j (by omega)]
    have e1 : shr .i64 n ((j + 1 : Nat) : Int) = n / (2 * 2 ^ j) := by
      unfold shr
      rw [Nat.min_eq_left (by simp [IntKind.bits]; omega), Int.toNat_natCast, pow_split]
    rw [e1]
    have q1 := Int.mul_ediv_add_emod n (2 * 2 ^ j)
    have q2 := Int.emod_nonneg n (show (2 * 2 ^ j : Int) ≠ 0 by omega)
    have q3 := Int.emod_lt_of_pos n (show (0 : Int) < 2 * 2 ^ j by omega)
    have e2 : shl .i64 (n / (2 * 2 ^ j)) ((j + 1 : Nat) : Int) = 2 * (2 ^ j * (n / (2 * 2 ^ j))) := by
      unfold shl
      rw [Nat.min_eq_left (by simp [IntKind.bits]; omega), Int.toNat_natCast, pow_split, IntKind.wrap_i64, Int.mul_comm, Int.mul_assoc]
      rw [Int.mul_assoc] at q1
      omega
    rw [e2]
    rw [Int.mul_assoc] at q1
    have hd : -4611686018427387904 ≤ n / (2 * 2 ^ j) ∧ n / (2 * 2 ^ j) ≤ 4611686018427387904 := by
      constructor
      · exact Int.le_ediv_of_mul_le (by omega) (by omega)
      · have := Int.ediv_le_ediv (show (0 : Int) < 2 * 2 ^ j by omega) h1
        have := Int.ediv_le_self (a := 4611686018427387904) (2 * 2 ^ j) (by omega)
        omega
    generalize hq : n / (2 * 2 ^ j) = q at *
    have w1 : wrap64 (n - 2 * (2 ^ j * q)) = n - 2 * (2 ^ j * q) := by unfold wrap64; omega
    have w2 : wrap64 (q + 1) = q + 1 := by unfold wrap64; omega
    rw [w1, w2]
    by_cases h : n - 2 * (2 ^ j * q) ≥ 2 ^ j
    · rw [if_pos h]
      congr 1
      symm
      apply rnd_eq
      · rw [pow_split, Int.mul_assoc, Int.mul_add]; omega
      · rw [pow_split, Int.mul_assoc, Int.mul_add]; omega
    · rw [if_neg h]
      congr 1
      symm
      apply rnd_eq
      · rw [pow_split, Int.mul_assoc]; omega
      · rw [pow_split, Int.mul_assoc]; omega

theorem round_same (k : Nat) (n b : Int) : ∃ r, fix_Round.f (k + 1) n b = some r ∧ reedpiperef03_Round.f n b = some r := by
  by_cases h : inRound n b
  · refine ⟨_, round_okI k n b h, ?_⟩
    obtain ⟨h0, h1, h2, h3⟩ := h
    unfold reedpiperef03_Round.f
    rw [if_neg (by omega), if_neg (by omega), if_neg (by omega), if_neg (by omega)]
    have := down_ref n b.toNat h0 h1 (by omega)
    rw [Int.toNat_of_nonneg h2] at this
    rw [this]
    rfl
  · refine ⟨_, round_no k n b h, ?_⟩
    unfold inRound at h
    unfold reedpiperef03_Round.f
    repeat' split
    all_goals first | rfl | omega

theorem clip_same (n b : Int) : ∃ r, fix_Clip.f n b = some r ∧ reedpiperef03_Clip.f n b = some r := by
  unfold fix_Clip.f reedpiperef03_Clip.f reedpiperef03_Kept.f
  by_cases h1 : b < 1
  · exact ⟨_, by rw [if_pos h1], by rw [if_pos h1]⟩
  · by_cases h2 : b > 62
    · exact ⟨_, by rw [if_neg h1, if_pos h2], by rw [if_neg h1, if_pos h2]⟩
    · obtain ⟨j, rfl⟩ : ∃ j : Nat, b = (j : Int) + 1 := ⟨(b - 1).toNat, by omega⟩
      obtain ⟨p0, p1⟩ := pow_bd j (by omega)
      have ew : wrap64 ((j : Int) + 1 - 1) = j := by unfold wrap64; omega
      rw [if_neg h1, if_neg h2, if_neg h1, if_neg h2, ew, shl_one j (by omega), if_pos (by omega), if_pos (by omega)]
      have w1 : wrap64 (2 ^ j - 1) = 2 ^ j - 1 := by unfold wrap64; omega
      have w2 : wrap64 (-2 ^ j) = -2 ^ j := by unfold wrap64; omega
      rw [w1, w2]
      have w3 : wrap64 (-(2 ^ j - 1)) = -(2 ^ j - 1) := by unfold wrap64; omega
      have w4 : wrap64 (- -2 ^ j) = 2 ^ j := by unfold wrap64; omega
      rw [w3, w4, w1]
      have w5 : wrap64 (-(2 ^ j - 1) - 1) = -2 ^ j := by unfold wrap64; omega
      rw [w5]
      exact ⟨_, rfl, rfl⟩

theorem div_le (n c : Int) (h0 : 0 ≤ n) (h1 : n ≤ 4611686018427387904) (hc : 0 < c) : wrap64 (Int.tdiv n c) = n / c := by
  rw [Int.tdiv_eq_ediv_of_nonneg h0]
  have := Int.ediv_nonneg h0 (show 0 ≤ c by omega)
  have := Int.ediv_le_self (a := n) c h0
  unfold wrap64; omega

/-- The bits that the document's roots go through, from above. -/
def bitv : Nat → Int
  | 0 => 0
  | j + 1 => 2 ^ j

theorem half_pow (j : Nat) (h : j ≤ 61) : wrap64 (Int.tdiv (2 ^ j) 2) = bitv j := by
  cases j with
  | zero => decide +kernel
  | succ j =>
    obtain ⟨p0, p1⟩ := pow_bd j (by omega)
    rw [show bitv (j + 1) = 2 ^ j from rfl]
    rw [pow_split, Int.tdiv_eq_ediv_of_nonneg (by omega)]
    unfold wrap64; omega

theorem root_loop (n : Int) (h0 : 0 ≤ n) (h1 : n ≤ 4611686018427387904) : ∀ (j : Nat) (k : Nat) (r : Int), j ≤ 32 → 0 ≤ r → r + 2 ^ j ≤ 4294967296 → j < k →
    reedpiperef03_Root.l0 k n r (bitv j) = some (rgo (g2 n) j r) := by
  intro j
  induction j with
  | zero =>
    intro k r hj hr hb hk
    obtain ⟨k, rfl⟩ : ∃ m, k = m + 1 := ⟨k - 1, by omega⟩
    rw [show bitv 0 = 0 from rfl]
    simp only [reedpiperef03_Root.l0, rgo]
    rw [if_neg (by decide)]
  | succ j ih =>
    intro k r hj hr hb hk
    obtain ⟨k, rfl⟩ : ∃ m, k = m + 1 := ⟨k - 1, by omega⟩
    obtain ⟨p0, p1⟩ := pow_bd j (by omega)
    rw [pow_split] at hb
    have w : wrap64 (r + 2 ^ j) = r + 2 ^ j := by unfold wrap64; omega
    have hs : r + 2 ^ j ≤ wrap64 (Int.tdiv n (r + 2 ^ j)) ↔ ¬ g2 n (r + 2 ^ j) = true := by
      rw [div_le n _ h0 h1 (by omega), Int.le_ediv_iff_mul_le (by omega)]
      unfold g2
      by_cases hx : 2147483649 ≤ r + 2 ^ j
      · rw [if_pos hx]
        have := sq_le (a := 2147483649) (b := r + 2 ^ j) (by omega) hx
        constructor
        · intro h; omega
        · intro h; exact absurd rfl h
      · rw [if_neg hx]
        simp
    rw [show bitv (j + 1) = 2 ^ j from rfl]
    simp only [reedpiperef03_Root.l0, rgo]
    rw [w, if_pos (by omega), if_neg (by omega), half_pow j (by omega)]
    by_cases hc : g2 n (r + 2 ^ j) = true
    · rw [if_neg (fun h => (hs.mp h) hc), if_pos hc]
      exact ih k r (by omega) hr (by omega) (by omega)
    · rw [if_pos (hs.mpr hc), if_neg hc]
      exact ih k (r + 2 ^ j) (by omega) (by omega) (by omega) (by omega)

theorem third_loop (n : Int) (h0 : 0 ≤ n) (h1 : n ≤ 4611686018427387904) : ∀ (j : Nat) (k : Nat) (r : Int), j ≤ 21 → 0 ≤ r → r + 2 ^ j ≤ 2097152 → j < k →
    reedpiperef03_Third.l0 k n r (bitv j) = some (rgo (g3 n) j r) := by
  intro j
  induction j with
  | zero =>
    intro k r hj hr hb hk
    obtain ⟨k, rfl⟩ : ∃ m, k = m + 1 := ⟨k - 1, by omega⟩
    rw [show bitv 0 = 0 from rfl]
    simp only [reedpiperef03_Third.l0, rgo]
    rw [if_neg (by decide)]
  | succ j ih =>
    intro k r hj hr hb hk
    obtain ⟨k, rfl⟩ : ∃ m, k = m + 1 := ⟨k - 1, by omega⟩
    obtain ⟨p0, p1⟩ := pow_bd j (by omega)
    rw [pow_split] at hb
    have w : wrap64 (r + 2 ^ j) = r + 2 ^ j := by unfold wrap64; omega
    have q := sq_le (a := r + 2 ^ j) (b := 2097152) (by omega) (by omega)
    have q0 : 0 ≤ (r + 2 ^ j) * (r + 2 ^ j) := Int.mul_nonneg (by omega) (by omega)
    have w2 : wrap64 ((r + 2 ^ j) * (r + 2 ^ j)) = (r + 2 ^ j) * (r + 2 ^ j) := by unfold wrap64; omega
    have hs : (r + 2 ^ j) * (r + 2 ^ j) ≤ wrap64 (Int.tdiv n (r + 2 ^ j)) ↔ ¬ g3 n (r + 2 ^ j) = true := by
      rw [div_le n _ h0 h1 (by omega), Int.le_ediv_iff_mul_le (by omega)]
      unfold g3
      simp
    rw [show bitv (j + 1) = 2 ^ j from rfl]
    simp only [reedpiperef03_Third.l0, rgo]
    rw [w, w2, if_pos (by omega), if_neg (by omega), half_pow j (by omega)]
    by_cases hc : g3 n (r + 2 ^ j) = true
    · rw [if_neg (fun h => (hs.mp h) hc), if_pos hc]
      exact ih k r (by omega) hr (by omega) (by omega)
    · rw [if_pos (hs.mpr hc), if_neg hc]
      exact ih k (r + 2 ^ j) (by omega) (by omega) (by omega) (by omega)

theorem sqrt_same (n : Int) : ∃ r, fix_Sqrt.f n = some r ∧ reedpiperef03_Sqrt.f 40 n = some r := by
  unfold fix_Sqrt.f reedpiperef03_Sqrt.f
  by_cases h0 : n < 0
  · exact ⟨_, by rw [if_pos h0], by rw [if_pos h0]⟩
  · by_cases h1 : 4611686018427387904 < n
    · exact ⟨_, by rw [if_neg h0, if_pos h1], by rw [if_neg h0, if_pos h1]⟩
    · refine ⟨(isq n, 0), by rw [if_neg h0, if_neg h1], ?_⟩
      rw [if_neg h0, if_neg h1]
      have := root_loop n (by omega) (by omega) 32 40 0 (by omega) (by omega) (by decide) (by omega)
      unfold reedpiperef03_Root.f
      rw [show (2147483648 : Int) = bitv 32 from by decide, this]
      rfl

theorem cbrt_same (n : Int) : ∃ r, fix_Cbrt.f n = some r ∧ reedpiperef03_Cbrt.f 40 n = some r := by
  unfold fix_Cbrt.f reedpiperef03_Cbrt.f
  by_cases h0 : n < 0
  · exact ⟨_, by rw [if_pos h0], by rw [if_pos h0]⟩
  · by_cases h1 : 4611686018427387904 < n
    · exact ⟨_, by rw [if_neg h0, if_pos h1], by rw [if_neg h0, if_pos h1]⟩
    · refine ⟨(icb n, 0), by rw [if_neg h0, if_neg h1], ?_⟩
      rw [if_neg h0, if_neg h1]
      have := third_loop n (by omega) (by omega) 21 40 0 (by omega) (by omega) (by decide) (by omega)
      unfold reedpiperef03_Third.f
      rw [show (1048576 : Int) = bitv 21 from by decide, this]
      rfl

theorem FixDoes : reedpipelaw03_FixDoes.Pure := by
  intro n b _ _
  refine ⟨40, ?_⟩
  obtain ⟨r1, a1, b1⟩ := round_same 39 n b
  obtain ⟨r2, a2, b2⟩ := clip_same n b
  obtain ⟨r3, a3, b3⟩ := sqrt_same n
  obtain ⟨r4, a4, b4⟩ := cbrt_same n
  unfold reedpipelaw03_FixDoes.f
  rw [a1, b1, a2, b2, a3, b3, a4, b4]
  simp

end Go.Proofs.Ytehhpaellcffmaa.Pure
