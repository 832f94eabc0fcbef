/-
  The document's quantised line.
-/
import Derived.Test.YthlodaeodakomabPrintP17
import Derived.Test.YthlodaeodakomabRtValue
namespace Go.Proofs.Ythlodaeodakomab
open Go.RowKit Go.Proofs.YthlodaeodakomabW.PrintWords Go.Proofs.YthlodaeodakomabW.PrintLast PrintP

theorem near_loop (x s : Int) (hx0 : 0 ≤ x) (hx1 : x ≤ 268435455) (h2 : 0 ≤ s) (h3 : s ≤ 255) : ∀ (n k : Nat) (i j : Int), 0 ≤ i → i ≤ j → j ≤ 8191 → j - i < n → (j - i).toNat + 30 ≤ k →
    reedpiperef07_Near.l0 k x s i j = some (srch (qtest x s) n i j)
  | 0, k, i, j, _, h, _, hn, _ => by omega
  | n + 1, k, i, j, hi, h, hj, hn, hk => by
    obtain ⟨k, rfl⟩ : ∃ m, k = m + 1 := ⟨k - 1, by omega⟩
    simp only [reedpiperef07_Near.l0, srch]
    by_cases hlt : i < j
    · have w1 : wrap64 (i + j) = i + j := by unfold wrap64; omega
      have t1 : Int.tdiv (i + j) 2 = (i + j) / 2 := Int.tdiv_eq_ediv_of_nonneg (by omega)
      have w2 : wrap64 ((i + j) / 2) = (i + j) / 2 := by unfold wrap64; omega
      have w3 : wrap64 ((i + j) / 2 + 1) = (i + j) / 2 + 1 := by unfold wrap64; omega
      have b1 := ln0_bd ((i + j) / 2) s (by omega) (by omega)
      have b2 := ln0_bd ((i + j) / 2 + 1) s (by omega) (by omega)
      rw [if_pos hlt, w1, t1, w2, w3, value_ref k ((i + j) / 2) s (by omega) (by omega) (by omega) h2 h3, value_ref k ((i + j) / 2 + 1) s (by omega) (by omega) (by omega) h2 h3]
      simp only [Option.bind_some]
      rw [ln_pos (by omega), ln_pos (by omega)]
      have w4 : wrap64 (2 * x) = 2 * x := by unfold wrap64; omega
      have w5 : wrap64 (ln0 ((i + j) / 2) s + ln0 ((i + j) / 2 + 1) s) = ln0 ((i + j) / 2) s + ln0 ((i + j) / 2 + 1) s := by unfold wrap64; omega
      rw [w4, w5, if_pos hlt]
      by_cases hg : 2 * x ≤ ln0 ((i + j) / 2) s + ln0 ((i + j) / 2 + 1) s
      · rw [if_pos hg, if_pos (show qtest x s ((i + j) / 2) = true from decide_eq_true hg)]
        exact near_loop x s hx0 hx1 h2 h3 n k i ((i + j) / 2) hi (by omega) (by omega) (by omega) (by omega)
      · rw [if_neg hg, if_neg (show ¬ qtest x s ((i + j) / 2) = true from by unfold qtest; rw [decide_eq_false hg]; decide)]
        exact near_loop x s hx0 hx1 h2 h3 n k ((i + j) / 2 + 1) j (by omega) (by omega) hj (by omega) (by omega)
    · rw [if_neg hlt, if_neg hlt]

theorem near_ref0 (k : Nat) (x s : Int) (hk : 8300 ≤ k) (h0 : 0 ≤ x) (h1 : x ≤ 268435455) (h2 : 0 ≤ s) (h3 : s ≤ 255) : reedpiperef07_Near.f k x s = some (qn0 x s) := by
  obtain ⟨k, rfl⟩ : ∃ m, k = m + 1 := ⟨k - 1, by omega⟩
  rw [reedpiperef07_Near.f, if_neg (by omega)]
  exact near_loop x s h0 h1 h2 h3 8192 k 0 8191 (by omega) (by omega) (by omega) (by omega) (by omega)

theorem near_ref (k : Nat) (x s : Int) (hk : 8301 ≤ k) (h0 : -268435455 ≤ x) (h1 : x ≤ 268435455) (h2 : 0 ≤ s) (h3 : s ≤ 255) : reedpiperef07_Near.f k x s = some (qn x s) := by
  unfold qn
  by_cases h : x < 0
  · obtain ⟨k, rfl⟩ : ∃ m, k = m + 1 := ⟨k - 1, by omega⟩
    have hb := qn0_bd (-x) s
    have w : wrap64 (-x) = -x := by unfold wrap64; omega
    rw [if_pos h, reedpiperef07_Near.f, if_pos h, w, near_ref0 k (-x) s (by omega) (by omega) (by omega) h2 h3]
    simp only [Option.bind_some]
    rw [show wrap64 (-qn0 (-x) s) = -qn0 (-x) s from by unfold wrap64; omega]
  · rw [if_neg h]
    exact near_ref0 k x s (by omega) (by omega) h1 h2 h3

end Go.Proofs.Ythlodaeodakomab
