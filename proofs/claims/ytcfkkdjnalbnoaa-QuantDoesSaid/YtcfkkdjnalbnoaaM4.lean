/-
  Plain facts that the document's roots and roundings lean on.
-/
import Derived.Test.YtcfkkdjnalbnoaaM1
import Derived.Test.YtcfkkdjnalbnoaaWLast
namespace Go.Proofs.Ytcfkkdjnalbnoaa
open Go.RowKit Go.Proofs.YtcfkkdjnalbnoaaW.PrintWords Go.Proofs.YtcfkkdjnalbnoaaW.PrintLast

theorem pow_bd (j : Nat) (h : j ≤ 61) : (0 : Int) < 2 ^ j ∧ (2 : Int) ^ j ≤ 2305843009213693952 := by
  have h61 : (2 : Int) ^ 61 = 2305843009213693952 := by decide
  obtain ⟨d, hd⟩ := Nat.exists_eq_add_of_le h
  have hp : (0 : Int) < 2 ^ j := Int.pow_pos (by omega)
  have hq : (0 : Int) < 2 ^ d := Int.pow_pos (by omega)
  rw [hd, Int.pow_add] at h61
  have := Int.mul_le_mul_of_nonneg_left (show (1 : Int) ≤ 2 ^ d by omega) (show (0 : Int) ≤ 2 ^ j by omega)
  omega

theorem shl_one (j : Nat) (h : j ≤ 61) : shl .i64 1 j = 2 ^ j := by
  obtain ⟨a, b⟩ := pow_bd j h
  unfold shl
  rw [Nat.min_eq_left (by simp [IntKind.bits]; omega), IntKind.wrap_i64, Int.toNat_natCast]
  omega

theorem div_le (n c : Int) (h0 : 0 ≤ n) (h1 : n ≤ 4611686018427387904) (hc : 0 < c) : wrap64 (Int.tdiv n c) = n / c := by
  rw [Int.tdiv_eq_ediv_of_nonneg h0]
  have := Int.ediv_nonneg h0 (show 0 ≤ c by omega)
  have := Int.ediv_le_self (a := n) c h0
  unfold wrap64; omega

/-- The bits that the document's roots go through, from above. -/
def bitv : Nat → Int
  | 0 => 0
  | j + 1 => 2 ^ j

theorem half_pow (j : Nat) (h : j ≤ 61) : wrap64 (Int.tdiv (2 ^ j) 2) = bitv j := by
  cases j with
  | zero => decide +kernel
  | succ j =>
    obtain ⟨p0, p1⟩ := pow_bd j (by omega)
    rw [show bitv (j + 1) = 2 ^ j from rfl]
    rw [pow_split, Int.tdiv_eq_ediv_of_nonneg (by omega)]
    unfold wrap64; omega

end Go.Proofs.Ytcfkkdjnalbnoaa
