/-
  Plain facts on sums of what is rounded off, and on rounding twice.
-/
import Derived.Test.YtehhpaellcffmaaM1
namespace Go.Proofs.Ytehhpaellcffmaa

theorem rnd_sum (n m : Int) (b : Nat) : -1 ≤ rnd n b + rnd m b - rnd (n + m) b ∧ rnd n b + rnd m b - rnd (n + m) b ≤ 1 := by
  have hp : (0 : Int) < 2 ^ b := Int.pow_pos (by omega)
  obtain ⟨a1, a2⟩ := rnd_bounds n b
  obtain ⟨b1, b2⟩ := rnd_bounds m b
  obtain ⟨c1, c2⟩ := rnd_bounds (n + m) b
  have e : 2 ^ b * (rnd n b + rnd m b - rnd (n + m) b) = 2 ^ b * rnd n b + 2 ^ b * rnd m b - 2 ^ b * rnd (n + m) b := by rw [Int.mul_sub, Int.mul_add]
  generalize rnd n b + rnd m b - rnd (n + m) b = t at *
  constructor
  · rcases Int.lt_or_le t (-1) with h | h
    · have : 2 ^ b * t ≤ 2 ^ b * (-2) := Int.mul_le_mul_of_nonneg_left (by omega) (by omega)
      omega
    · exact h
  · rcases Int.lt_or_le 1 t with h | h
    · have : 2 ^ b * 2 ≤ 2 ^ b * t := Int.mul_le_mul_of_nonneg_left (by omega) (by omega)
      omega
    · exact h

theorem rnd_neg (n : Int) (b : Nat) : rnd n b + rnd (-n) b = 0 ∨ rnd n b + rnd (-n) b = 1 := by
  have hp : (0 : Int) < 2 ^ b := Int.pow_pos (by omega)
  obtain ⟨a1, a2⟩ := rnd_bounds n b
  obtain ⟨b1, b2⟩ := rnd_bounds (-n) b
  have e : 2 ^ b * (rnd n b + rnd (-n) b) = 2 ^ b * rnd n b + 2 ^ b * rnd (-n) b := by rw [Int.mul_add]
  generalize rnd n b + rnd (-n) b = t at *
  have h1 : -1 < t := by
    rcases Int.lt_or_le (-1) t with h | h
    · exact h
    · have : 2 ^ b * t ≤ 2 ^ b * (-1) := Int.mul_le_mul_of_nonneg_left (by omega) (by omega)
      omega
  have h2 : t < 2 := by
    rcases Int.lt_or_le t 2 with h | h
    · exact h
    · have : 2 ^ b * 2 ≤ 2 ^ b * t := Int.mul_le_mul_of_nonneg_left (by omega) (by omega)
      omega
  omega

theorem rnd_twice (n : Int) (a b : Nat) : rnd (rnd n a) b = rnd n (a + b) ∨ rnd (rnd n a) b = rnd n (a + b) + 1 := by
  cases b with
  | zero => left; rw [rnd_zero, Nat.add_zero]
  | succ c =>
    have hA : (0 : Int) < 2 ^ a := Int.pow_pos (by omega)
    have hC : (0 : Int) < 2 ^ c := Int.pow_pos (by omega)
    obtain ⟨a1, a2⟩ := rnd_bounds n a
    obtain ⟨b1, b2⟩ := rnd_bounds (rnd n a) (c + 1)
    obtain ⟨c1, c2⟩ := rnd_bounds n (a + (c + 1))
    have e2 : (2 : Int) ^ (a + (c + 1)) = 2 * (2 ^ a * 2 ^ c) := by rw [Int.pow_add, pow_split, Int.mul_left_comm]
    rw [e2, Int.mul_assoc] at c1 c2
    rw [pow_split, Int.mul_assoc] at b1 b2
    generalize rnd n a = x at *
    generalize rnd x (c + 1) = u at *
    generalize rnd n (a + (c + 1)) = v at *
    generalize (2 : Int) ^ a = A at *
    generalize (2 : Int) ^ c = C at *
    have hAC : 0 < A * C := Int.mul_pos hA hC
    have hAle : A ≤ A * C := by
      have := Int.mul_le_mul_of_nonneg_left (show (1 : Int) ≤ C by omega) (show (0 : Int) ≤ A by omega)
      omega
    have h1 : v ≤ u := by
      rcases Int.lt_or_le u v with h | h
      · have k1 : C * (u + 1) ≤ C * v := Int.mul_le_mul_of_nonneg_left (by omega) (by omega)
        rw [Int.mul_add] at k1
        have k2 : A * x ≤ A * (2 * (C * v) - C - 1) := Int.mul_le_mul_of_nonneg_left (by omega) (by omega)
        have e : A * (2 * (C * v) - C - 1) = 2 * (A * C * v) - A * C - A := by
          rw [Int.mul_sub, Int.mul_sub, Int.mul_left_comm, ← Int.mul_assoc A C v]; omega
        omega
      · exact h
    have h2 : u ≤ v + 1 := by
      rcases Int.lt_or_le (v + 1) u with h | h
      · have k1 : C * (v + 2) ≤ C * u := Int.mul_le_mul_of_nonneg_left (by omega) (by omega)
        rw [Int.mul_add] at k1
        have k2 : A * (2 * (C * v) + 3 * C) ≤ A * x := Int.mul_le_mul_of_nonneg_left (by omega) (by omega)
        have e : A * (2 * (C * v) + 3 * C) = 2 * (A * C * v) + 3 * (A * C) := by
          rw [Int.mul_add, Int.mul_left_comm A 2 (C * v), ← Int.mul_assoc A C v, Int.mul_left_comm A 3 C]
        omega
      · exact h
    omega
end Go.Proofs.Ytehhpaellcffmaa
