/-
  References in one text: third, down, value, near.
-/
import Derived.Test.YtcfkkdjnalbnoaaPrintD2
import Derived.Test.YtcfkkdjnalbnoaaM4
import Derived.Test.YtcfkkdjnalbnoaaPrintD2
import Derived.Test.YtcfkkdjnalbnoaaPrintD2
import Derived.Test.YtcfkkdjnalbnoaaM3
import Derived.Test.YtcfkkdjnalbnoaaPrintD2
namespace Go.Proofs.Ytcfkkdjnalbnoaa
section
open Go.RowKit Go.Proofs.YtcfkkdjnalbnoaaW.PrintWords Go.Proofs.YtcfkkdjnalbnoaaW.PrintLast PrintD

theorem third_loop (n : Int) (h0 : 0 ≤ n) (h1 : n ≤ 4611686018427387904) : ∀ (j : Nat) (k : Nat) (r : Int), j ≤ 21 → 0 ≤ r → r + 2 ^ j ≤ 2097152 → j < k →
    reedpiperef03_Third.l0 k n r (bitv j) = some (rgo (g3 n) j r) := by
  intro j
  induction j with
  | zero =>
    intro k r hj hr hb hk
    obtain ⟨k, rfl⟩ : ∃ m, k = m + 1 := ⟨k - 1, by omega⟩
    rw [show bitv 0 = 0 from rfl]
    simp only [reedpiperef03_Third.l0, rgo]
    rw [if_neg (by decide)]
  | succ j ih =>
    intro k r hj hr hb hk
    obtain ⟨k, rfl⟩ : ∃ m, k = m + 1 := ⟨k - 1, by omega⟩
    obtain ⟨p0, p1⟩ := pow_bd j (by omega)
    rw [pow_split] at hb
    have w : wrap64 (r + 2 ^ j) = r + 2 ^ j := by unfold wrap64; omega
    have q := sq_le (a := r + 2 ^ j) (b := 2097152) (by omega) (by omega)
    have q0 : 0 ≤ (r + 2 ^ j) * (r + 2 ^ j) := Int.mul_nonneg (by omega) (by omega)
    have w2 : wrap64 ((r + 2 ^ j) * (r + 2 ^ j)) = (r + 2 ^ j) * (r + 2 ^ j) := by unfold wrap64; omega
    have hs : (r + 2 ^ j) * (r + 2 ^ j) ≤ wrap64 (Int.tdiv n (r + 2 ^ j)) ↔ ¬ g3 n (r + 2 ^ j) = true := by
      rw [div_le n _ h0 h1 (by omega), Int.le_ediv_iff_mul_le (by omega)]
      unfold g3
      simp
    rw [show bitv (j + 1) = 2 ^ j from rfl]
    simp only [reedpiperef03_Third.l0, rgo]
    rw [w, w2, if_pos (by omega), if_neg (by omega), half_pow j (by omega)]
    by_cases hc : g3 n (r + 2 ^ j) = true
    · rw [if_neg (fun h => (hs.mp h) hc), if_pos hc]
      exact ih k r (by omega) hr (by omega) (by omega)
    · rw [if_pos (hs.mpr hc), if_neg hc]
      exact ih k (r + 2 ^ j) (by omega) (by omega) (by omega) (by omega)
end
section
open Go.RowKit Go.Proofs.YtcfkkdjnalbnoaaW.PrintWords Go.Proofs.YtcfkkdjnalbnoaaW.PrintLast PrintD

/-- As the document rounds. -/
theorem down_ref (n : Int) (b : Nat) (h0 : -4611686018427387904 ≤ n) (h1 : n ≤ 4611686018427387904) (hb : b ≤ 62) : reedpiperef03_Down.f n b = some (rnd n b) := by
  unfold reedpiperef03_Down.f
  cases b with
  | zero => rw [if_pos (by decide), rnd_zero]
  | succ j =>
    obtain ⟨p0, p1⟩ := pow_bd j (by omega)
    have ew : wrap64 (((j + 1 : Nat) : Int) - 1) = j := by unfold wrap64; omega
    rw [if_neg (by omega), ew, if_pos (by omega), if_pos (by omega), shl_one j (by omega)]
    have e1 : shr .i64 n ((j + 1 : Nat) : Int) = n / (2 * 2 ^ j) := by
      unfold shr
      rw [Nat.min_eq_left (by simp [IntKind.bits]; omega), Int.toNat_natCast, pow_split]
    rw [e1]
    have q1 := Int.mul_ediv_add_emod n (2 * 2 ^ j)
    have q2 := Int.emod_nonneg n (show (2 * 2 ^ j : Int) ≠ 0 by omega)
    have q3 := Int.emod_lt_of_pos n (show (0 : Int) < 2 * 2 ^ j by omega)
    have e2 : shl .i64 (n / (2 * 2 ^ j)) ((j + 1 : Nat) : Int) = 2 * (2 ^ j * (n / (2 * 2 ^ j))) := by
      unfold shl
      rw [Nat.min_eq_left (by simp [IntKind.bits]; omega), Int.toNat_natCast, pow_split, IntKind.wrap_i64, Int.mul_comm, Int.mul_assoc]
      rw [Int.mul_assoc] at q1
      omega
    rw [e2]
    rw [Int.mul_assoc] at q1
    have hd : -4611686018427387904 ≤ n / (2 * 2 ^ j) ∧ n / (2 * 2 ^ j) ≤ 4611686018427387904 := by
      constructor
      · exact Int.le_ediv_of_mul_le (by omega) (by omega)
      · have := Int.ediv_le_ediv (show (0 : Int) < 2 * 2 ^ j by omega) h1
        have := Int.ediv_le_self (a := 4611686018427387904) (2 * 2 ^ j) (by omega)
        omega
    generalize hq : n / (2 * 2 ^ j) = q at *
    have w1 : wrap64 (n - 2 * (2 ^ j * q)) = n - 2 * (2 ^ j * q) := by unfold wrap64; omega
    have w2 : wrap64 (q + 1) = q + 1 := by unfold wrap64; omega
    rw [w1, w2]
    by_cases h : n - 2 * (2 ^ j * q) ≥ 2 ^ j
    · rw [if_pos h]
      congr 1
      symm
      apply rnd_eq
      · rw [pow_split, Int.mul_assoc, Int.mul_add]; omega
      · rw [pow_split, Int.mul_assoc, Int.mul_add]; omega
    · rw [if_neg h]
      congr 1
      symm
      apply rnd_eq
      · rw [pow_split, Int.mul_assoc]; omega
      · rw [pow_split, Int.mul_assoc]; omega
end
section
open Go.RowKit Go.Proofs.YtcfkkdjnalbnoaaW.PrintWords Go.Proofs.YtcfkkdjnalbnoaaW.PrintLast PrintD

theorem power_ref (k : Nat) (q : Int) (hk : 22 ≤ k) (h0 : 0 ≤ q) (h1 : q ≤ 8191) : reedpiperef07_Power.f k q = some (pw q) := by
  unfold reedpiperef07_Power.f reedpiperef03_Third.f
  have w : wrap64 (q * 68719476736) = q * 68719476736 := by unfold wrap64; omega
  have ht := third_loop (q * 68719476736) (by omega) (by omega) 21 k 0 (by omega) (by omega) (by decide) (by omega)
  rw [w, show (1048576 : Int) = bitv 21 from by decide, ht]
  simp only [Option.bind_some]
  have hp := pw_bd q h0 h1
  have e : wrap64 (q * rgo (g3 (q * 68719476736)) 21 0) = pw q := by
    show wrap64 (pw q) = pw q
    unfold wrap64; omega
  rw [e]

theorem quarter_ref (n : Int) : reedpiperef07_quarter.f n = some (gq n) := by
  unfold reedpiperef07_quarter.f gq
  split
  · rfl
  · split
    · rfl
    · split <;> rfl

theorem value_ref0 (k : Nat) (q s : Int) (hk : 22 ≤ k) (h0 : 0 ≤ q) (h1 : q ≤ 8191) (h2 : 0 ≤ s) (h3 : s ≤ 255) : reedpiperef07_Value.f (k + 1) q s = some (ln0 q s) := by
  simp only [reedpiperef07_Value.f]
  obtain ⟨p0, p1⟩ := pw_bd q h0 h1
  obtain ⟨g0, g1⟩ := gq_bd (s % 4)
  have m0 : 0 ≤ pw q * gq (s % 4) := Int.mul_nonneg p0 (by omega)
  have m1 : pw q * gq (s % 4) ≤ (8191 * 82569) * 1805811301 := Int.mul_le_mul p1 g1 (by omega) (by omega)
  have t1 : Int.tmod s 4 = s % 4 := Int.tmod_eq_emod_of_nonneg h2
  have t2 : Int.tdiv s 4 = s / 4 := Int.tdiv_eq_ediv_of_nonneg h2
  have w1 : wrap64 (s / 4) = s / 4 := by unfold wrap64; omega
  have w2 : wrap64 (61 - s / 4) = 61 - s / 4 := by unfold wrap64; omega
  have w3 : wrap64 (pw q * gq (s % 4)) = pw q * gq (s % 4) := by unfold wrap64; omega
  have e : mx (61 - s / 4) 0 = ((sbits s : Nat) : Int) := by unfold mx sbits; split <;> omega
  rw [if_neg (by omega), power_ref k q hk h0 h1, t1, quarter_ref, t2, w1, w2, e]
  simp only [Option.bind_some]
  rw [w3, down_ref _ (sbits s) (by omega) (by omega) (by unfold sbits; omega)]
  rfl

theorem value_ref (k : Nat) (q s : Int) (hk : 24 ≤ k) (h0 : -8191 ≤ q) (h1 : q ≤ 8191) (h2 : 0 ≤ s) (h3 : s ≤ 255) : reedpiperef07_Value.f k q s = some (ln q s) := by
  obtain ⟨k, rfl⟩ : ∃ m, k = m + 2 := ⟨k - 2, by omega⟩
  unfold ln
  by_cases h : q < 0
  · have hb := ln0_bd (-q) s (by omega) (by omega)
    have w : wrap64 (-q) = -q := by unfold wrap64; omega
    have hv := value_ref0 k (-q) s (by omega) (by omega) (by omega) h2 h3
    rw [if_pos h, show k + 2 = k + 1 + 1 from rfl]
    rw [reedpiperef07_Value.f, if_pos h, w, hv]
    simp only [Option.bind_some]
    rw [show wrap64 (-ln0 (-q) s) = -ln0 (-q) s from by unfold wrap64; omega]
  · rw [if_neg h]
    exact value_ref0 (k + 1) q s (by omega) (by omega) h1 h2 h3
end
section
open Go.RowKit Go.Proofs.YtcfkkdjnalbnoaaW.PrintWords Go.Proofs.YtcfkkdjnalbnoaaW.PrintLast PrintD

theorem near_loop (x s : Int) (hx0 : 0 ≤ x) (hx1 : x ≤ 268435455) (h2 : 0 ≤ s) (h3 : s ≤ 255) : ∀ (n k : Nat) (i j : Int), 0 ≤ i → i ≤ j → j ≤ 8191 → j - i < n → (j - i).toNat + 30 ≤ k →
    reedpiperef07_Near.l0 k x s i j = some (srch (qtest x s) n i j)
  | 0, k, i, j, _, h, _, hn, _ => by omega
  | n + 1, k, i, j, hi, h, hj, hn, hk => by
    obtain ⟨k, rfl⟩ : ∃ m, k = m + 1 := ⟨k - 1, by omega⟩
    simp only [reedpiperef07_Near.l0, srch]
    by_cases hlt : i < j
    · have w1 : wrap64 (i + j) = i + j := by unfold wrap64; omega
      have t1 : Int.tdiv (i + j) 2 = (i + j) / 2 := Int.tdiv_eq_ediv_of_nonneg (by omega)
      have w2 : wrap64 ((i + j) / 2) = (i + j) / 2 := by unfold wrap64; omega
      have w3 : wrap64 ((i + j) / 2 + 1) = (i + j) / 2 + 1 := by unfold wrap64; omega
      have b1 := ln0_bd ((i + j) / 2) s (by omega) (by omega)
      have b2 := ln0_bd ((i + j) / 2 + 1) s (by omega) (by omega)
      rw [if_pos hlt, w1, t1, w2, w3, value_ref k ((i + j) / 2) s (by omega) (by omega) (by omega) h2 h3, value_ref k ((i + j) / 2 + 1) s (by omega) (by omega) (by omega) h2 h3]
      simp only [Option.bind_some]
      rw [ln_pos (by omega), ln_pos (by omega)]
      have w4 : wrap64 (2 * x) = 2 * x := by unfold wrap64; omega
      have w5 : wrap64 (ln0 ((i + j) / 2) s + ln0 ((i + j) / 2 + 1) s) = ln0 ((i + j) / 2) s + ln0 ((i + j) / 2 + 1) s := by unfold wrap64; omega
      rw [w4, w5, if_pos hlt]
      by_cases hg : 2 * x ≤ ln0 ((i + j) / 2) s + ln0 ((i + j) / 2 + 1) s
      · rw [if_pos hg, if_pos (show qtest x s ((i + j) / 2) = true from decide_eq_true hg)]
        exact near_loop x s hx0 hx1 h2 h3 n k i ((i + j) / 2) hi (by omega) (by omega) (by omega) (by omega)
      · rw [if_neg hg, if_neg (show ¬ qtest x s ((i + j) / 2) = true from by unfold qtest; rw [decide_eq_false hg]; decide)]
        exact near_loop x s hx0 hx1 h2 h3 n k ((i + j) / 2 + 1) j (by omega) (by omega) hj (by omega) (by omega)
    · rw [if_neg hlt, if_neg hlt]

theorem near_ref0 (k : Nat) (x s : Int) (hk : 8300 ≤ k) (h0 : 0 ≤ x) (h1 : x ≤ 268435455) (h2 : 0 ≤ s) (h3 : s ≤ 255) : reedpiperef07_Near.f k x s = some (qn0 x s) := by
  obtain ⟨k, rfl⟩ : ∃ m, k = m + 1 := ⟨k - 1, by omega⟩
  rw [reedpiperef07_Near.f, if_neg (by omega)]
  exact near_loop x s h0 h1 h2 h3 8192 k 0 8191 (by omega) (by omega) (by omega) (by omega) (by omega)

theorem near_ref (k : Nat) (x s : Int) (hk : 8301 ≤ k) (h0 : -268435455 ≤ x) (h1 : x ≤ 268435455) (h2 : 0 ≤ s) (h3 : s ≤ 255) : reedpiperef07_Near.f k x s = some (qn x s) := by
  unfold qn
  by_cases h : x < 0
  · obtain ⟨k, rfl⟩ : ∃ m, k = m + 1 := ⟨k - 1, by omega⟩
    have hb := qn0_bd (-x) s
    have w : wrap64 (-x) = -x := by unfold wrap64; omega
    rw [if_pos h, reedpiperef07_Near.f, if_pos h, w, near_ref0 k (-x) s (by omega) (by omega) (by omega) h2 h3]
    simp only [Option.bind_some]
    rw [show wrap64 (-qn0 (-x) s) = -qn0 (-x) s from by unfold wrap64; omega]
  · rw [if_neg h]
    exact near_ref0 k x s (by omega) (by omega) h1 h2 h3
end
end Go.Proofs.Ytcfkkdjnalbnoaa
