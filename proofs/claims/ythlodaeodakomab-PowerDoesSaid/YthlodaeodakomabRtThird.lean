/-
  The document's third root.
-/
import Derived.Test.YthlodaeodakomabPrintP10
import Derived.Test.YthlodaeodakomabM4
namespace Go.Proofs.Ythlodaeodakomab
open Go.RowKit Go.Proofs.YthlodaeodakomabW.PrintWords Go.Proofs.YthlodaeodakomabW.PrintLast PrintP

theorem third_loop (n : Int) (h0 : 0 ≤ n) (h1 : n ≤ 4611686018427387904) : ∀ (j : Nat) (k : Nat) (r : Int), j ≤ 21 → 0 ≤ r → r + 2 ^ j ≤ 2097152 → j < k →
    reedpiperef03_Third.l0 k n r (bitv j) = some (rgo (g3 n) j r) := by
  intro j
  induction j with
  | zero =>
    intro k r hj hr hb hk
    obtain ⟨k, rfl⟩ : ∃ m, k = m + 1 := ⟨k - 1, by omega⟩
    rw [show bitv 0 = 0 from rfl]
    simp only [reedpiperef03_Third.l0, rgo]
    rw [if_neg (by decide)]
  | succ j ih =>
    intro k r hj hr hb hk
    obtain ⟨k, rfl⟩ : ∃ m, k = m + 1 := ⟨k - 1, by omega⟩
    obtain ⟨p0, p1⟩ := pow_bd j (by omega)
    rw [pow_split] at hb
    have w : wrap64 (r + 2 ^ j) = r + 2 ^ j := by unfold wrap64; omega
    have q := sq_le (a := r + 2 ^ j) (b := 2097152) (by omega) (by omega)
    have q0 : 0 ≤ (r + 2 ^ j) * (r + 2 ^ j) := Int.mul_nonneg (by omega) (by omega)
    have w2 : wrap64 ((r + 2 ^ j) * (r + 2 ^ j)) = (r + 2 ^ j) * (r + 2 ^ j) := by unfold wrap64; omega
    have hs : (r + 2 ^ j) * (r + 2 ^ j) ≤ wrap64 (Int.tdiv n (r + 2 ^ j)) ↔ ¬ g3 n (r + 2 ^ j) = true := by
      rw [div_le n _ h0 h1 (by omega), Int.le_ediv_iff_mul_le (by omega)]
      unfold g3
      simp
    rw [show bitv (j + 1) = 2 ^ j from rfl]
    simp only [reedpiperef03_Third.l0, rgo]
    rw [w, w2, if_pos (by omega), if_neg (by omega), half_pow j (by omega)]
    by_cases hc : g3 n (r + 2 ^ j) = true
    · rw [if_neg (fun h => (hs.mp h) hc), if_pos hc]
      exact ih k r (by omega) hr (by omega) (by omega)
    · rw [if_pos (hs.mpr hc), if_neg hc]
      exact ih k (r + 2 ^ j) (by omega) (by omega) (by omega) (by omega)

end Go.Proofs.Ythlodaeodakomab
