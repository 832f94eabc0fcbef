/-
  The document's rounding.
-/
import Derived.Test.YthlodaeodakomabPrintP13
import Derived.Test.YthlodaeodakomabM4
namespace Go.Proofs.Ythlodaeodakomab
open Go.RowKit Go.Proofs.YthlodaeodakomabW.PrintWords Go.Proofs.YthlodaeodakomabW.PrintLast PrintP

/-- As the document rounds. -/
theorem down_ref (n : Int) (b : Nat) (h0 : -4611686018427387904 ≤ n) (h1 : n ≤ 4611686018427387904) (hb : b ≤ 62) : reedpiperef03_Down.f n b = some (rnd n b) := by
  unfold reedpiperef03_Down.f
  cases b with
  | zero => rw [if_pos (by decide), rnd_zero]
  | succ j =>
    obtain ⟨p0, p1⟩ := pow_bd j (by omega)
    have ew : wrap64 (((j + 1 : Nat) : Int) - 1) = j := by unfold wrap64; omega
    rw [if_neg (by omega), ew, if_pos (by omega), if_pos (by omega), shl_one j (by omega)]
    have e1 : shr .i64 n ((j + 1 : Nat) : Int) = n / (2 * 2 ^ j) := by
      unfold shr
      rw [Nat.min_eq_left (by simp [IntKind.bits]; omega), Int.toNat_natCast, pow_split]
    rw [e1]
    have q1 := Int.mul_ediv_add_emod n (2 * 2 ^ j)
    have q2 := Int.emod_nonneg n (show (2 * 2 ^ j : Int) ≠ 0 by omega)
    have q3 := Int.emod_lt_of_pos n (show (0 : Int) < 2 * 2 ^ j by omega)
    have e2 : shl .i64 (n / (2 * 2 ^ j)) ((j + 1 : Nat) : Int) = 2 * (2 ^ j * (n / (2 * 2 ^ j))) := by
      unfold shl
      rw [Nat.min_eq_left (by simp [IntKind.bits]; omega), Int.toNat_natCast, pow_split, IntKind.wrap_i64, Int.mul_comm, Int.mul_assoc]
      rw [Int.mul_assoc] at q1
      omega
    rw [e2]
    rw [Int.mul_assoc] at q1
    have hd : -4611686018427387904 ≤ n / (2 * 2 ^ j) ∧ n / (2 * 2 ^ j) ≤ 4611686018427387904 := by
      constructor
      · exact Int.le_ediv_of_mul_le (by omega) (by omega)
      · have := Int.ediv_le_ediv (show (0 : Int) < 2 * 2 ^ j by omega) h1
        have := Int.ediv_le_self (a := 4611686018427387904) (2 * 2 ^ j) (by omega)
        omega
    generalize hq : n / (2 * 2 ^ j) = q at *
    have w1 : wrap64 (n - 2 * (2 ^ j * q)) = n - 2 * (2 ^ j * q) := by unfold wrap64; omega
    have w2 : wrap64 (q + 1) = q + 1 := by unfold wrap64; omega
    rw [w1, w2]
    by_cases h : n - 2 * (2 ^ j * q) ≥ 2 ^ j
    · rw [if_pos h]
      congr 1
      symm
      apply rnd_eq
      · rw [pow_split, Int.mul_assoc, Int.mul_add]; omega
      · rw [pow_split, Int.mul_assoc, Int.mul_add]; omega
    · rw [if_neg h]
      congr 1
      symm
      apply rnd_eq
      · rw [pow_split, Int.mul_assoc]; omega
      · rw [pow_split, Int.mul_assoc]; omega

end Go.Proofs.Ythlodaeodakomab
