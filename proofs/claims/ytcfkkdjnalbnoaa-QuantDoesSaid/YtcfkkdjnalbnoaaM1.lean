/-
  Plain facts on roots and on rounding: no program in sight.
-/
import Derived.Test.YtcfkkdjnalbnoaaM0
import Derived.Laws.Bits128
import Derived.Test.YtcfkkdjnalbnoaaWMore
namespace Go.Proofs.Ytcfkkdjnalbnoaa
open Go.RowKit

theorem rgo_eq (g : Int → Bool) (R : Int) : ∀ (k : Nat) (x : Int), x ≤ R → R < x + 2 ^ k → (∀ r, x < r → r < x + 2 ^ k → g r = decide (R < r)) → rgo g k x = R
  | 0, x, h0, h1, _ => by simp only [rgo]; rw [show (2 : Int) ^ 0 = 1 from rfl] at h1; omega
  | k + 1, x, h0, h1, hg => by
    have hp : (0 : Int) < 2 ^ k := Int.pow_pos (by omega)
    have e : (2 : Int) ^ (k + 1) = 2 * 2 ^ k := by rw [Int.pow_succ]; omega
    simp only [rgo]
    rw [hg (x + 2 ^ k) (by omega) (by omega)]
    by_cases h : R < x + 2 ^ k
    · rw [decide_eq_true h, if_pos rfl]
      exact rgo_eq g R k x h0 h (fun r a b => hg r a (by omega))
    · rw [decide_eq_false h, if_neg (by decide)]
      exact rgo_eq g R k (x + 2 ^ k) (by omega) (by omega) (fun r a b => hg r (by omega) (by omega))

theorem exists_sq : ∀ n : Nat, ∃ r : Nat, r * r ≤ n ∧ n < (r + 1) * (r + 1)
  | 0 => ⟨0, by omega, by omega⟩
  | n + 1 => by
    obtain ⟨r, h0, h1⟩ := exists_sq n
    by_cases h : n + 1 < (r + 1) * (r + 1)
    · exact ⟨r, by omega, h⟩
    · refine ⟨r + 1, by omega, ?_⟩
      have : (r + 1 + 1) * (r + 1 + 1) = (r + 1) * (r + 1) + 2 * (r + 1) + 1 := by simp only [Nat.add_mul, Nat.mul_add]; omega
      omega

theorem exists_cb : ∀ n : Nat, ∃ r : Nat, r * r * r ≤ n ∧ n < (r + 1) * (r + 1) * (r + 1)
  | 0 => ⟨0, by omega, by omega⟩
  | n + 1 => by
    obtain ⟨r, h0, h1⟩ := exists_cb n
    by_cases h : n + 1 < (r + 1) * (r + 1) * (r + 1)
    · exact ⟨r, by omega, h⟩
    · refine ⟨r + 1, by omega, ?_⟩
      have a1 : (r + 1) * (r + 1) < (r + 1 + 1) * (r + 1 + 1) := Nat.mul_lt_mul'' (by omega) (by omega)
      have a2 : (r + 1) * (r + 1) * (r + 1) < (r + 1 + 1) * (r + 1 + 1) * (r + 1 + 1) := Nat.mul_lt_mul'' a1 (by omega)
      omega

theorem sq_lt {a b : Int} (h0 : 0 ≤ a) (h : a < b) : a * a < b * b := by
  have h1 : a * a ≤ a * b := Int.mul_le_mul_of_nonneg_left (by omega) h0
  have h2 : a * b < b * b := Int.mul_lt_mul_of_pos_right h (by omega)
  omega
theorem sq_le {a b : Int} (h0 : 0 ≤ a) (h : a ≤ b) : a * a ≤ b * b := Int.mul_le_mul h h h0 (by omega)
theorem cb_le {a b : Int} (h0 : 0 ≤ a) (h : a ≤ b) : a * a * a ≤ b * b * b :=
  Int.mul_le_mul (sq_le h0 h) h h0 (Int.mul_nonneg (by omega) (by omega))
theorem cb_lt {a b : Int} (h0 : 0 ≤ a) (h : a < b) : a * a * a < b * b * b := by
  have h1 : a * a * a ≤ b * b * a := Int.mul_le_mul_of_nonneg_right (sq_le h0 (by omega)) h0
  have h2 : b * b * a < b * b * b := Int.mul_lt_mul_of_pos_left h (Int.mul_pos (by omega) (by omega))
  omega

theorem isq_eq {n r : Int} (hn : n ≤ 4611686018427387904) (h0 : 0 ≤ r) (h1 : r * r ≤ n) (h2 : n < (r + 1) * (r + 1)) : isq n = r := by
  have hr : r ≤ 2147483648 := by
    rcases Int.lt_or_le 2147483648 r with h | h
    · have := sq_lt (by omega) h; omega
    · exact h
  unfold isq
  refine rgo_eq _ _ _ _ h0 (by rw [show (2 : Int) ^ 32 = 4294967296 from by decide]; omega) (fun x hx0 hx1 => ?_)
  unfold g2
  by_cases hx : 2147483649 ≤ x
  · rw [if_pos hx]; simp; omega
  · rw [if_neg hx]
    congr 1
    rw [eq_iff_iff]
    constructor
    · intro h
      rcases Int.lt_or_le r x with h' | h'
      · exact h'
      · have := sq_le (a := x) (b := r) (by omega) h'; omega
    · intro h
      have := sq_le (a := r + 1) (b := x) (by omega) (by omega); omega

theorem isq_spec (n : Int) (h0 : 0 ≤ n) (hn : n ≤ 4611686018427387904) : 0 ≤ isq n ∧ isq n * isq n ≤ n ∧ n < (isq n + 1) * (isq n + 1) := by
  obtain ⟨r, a, b⟩ := exists_sq n.toNat
  have a' : (r : Int) * r ≤ n := by
    have : ((r * r : Nat) : Int) ≤ n := by omega
    exact_mod_cast this
  have b' : n < ((r : Int) + 1) * (r + 1) := by
    have : n < (((r + 1) * (r + 1) : Nat) : Int) := by omega
    exact_mod_cast this
  have e : isq n = r := isq_eq hn (by omega) a' b'
  rw [e]
  exact ⟨by omega, a', b'⟩

theorem icb_eq {n r : Int} (hn : n ≤ 4611686018427387904) (h0 : 0 ≤ r) (h1 : r * r * r ≤ n) (h2 : n < (r + 1) * (r + 1) * (r + 1)) : icb n = r := by
  have hr : r ≤ 2000000 := by
    rcases Int.lt_or_le 2000000 r with h | h
    · have := cb_lt (by omega) h; omega
    · exact h
  unfold icb
  refine rgo_eq _ _ _ _ h0 (by rw [show (2 : Int) ^ 21 = 2097152 from by decide]; omega) (fun x hx0 hx1 => ?_)
  unfold g3
  congr 1
  rw [eq_iff_iff]
  constructor
  · intro h
    rcases Int.lt_or_le r x with h' | h'
    · exact h'
    · have := cb_le (a := x) (b := r) (by omega) h'; omega
  · intro h
    have := cb_le (a := r + 1) (b := x) (by omega) (by omega); omega

theorem icb_spec (n : Int) (h0 : 0 ≤ n) (hn : n ≤ 4611686018427387904) : 0 ≤ icb n ∧ icb n * icb n * icb n ≤ n ∧ n < (icb n + 1) * (icb n + 1) * (icb n + 1) := by
  obtain ⟨r, a, b⟩ := exists_cb n.toNat
  have a' : (r : Int) * r * r ≤ n := by
    have : ((r * r * r : Nat) : Int) ≤ n := by omega
    exact_mod_cast this
  have b' : n < ((r : Int) + 1) * (r + 1) * (r + 1) := by
    have : n < (((r + 1) * (r + 1) * (r + 1) : Nat) : Int) := by omega
    exact_mod_cast this
  have e : icb n = r := icb_eq hn (by omega) a' b'
  rw [e]
  exact ⟨by omega, a', b'⟩

theorem isq_mono {n m : Int} (h0 : 0 ≤ n) (h : n ≤ m) (hm : m ≤ 4611686018427387904) : isq n ≤ isq m := by
  obtain ⟨a0, a1, a2⟩ := isq_spec n h0 (by omega)
  obtain ⟨b0, b1, b2⟩ := isq_spec m (by omega) hm
  rcases Int.lt_or_le (isq m) (isq n) with h' | h'
  · have := sq_le (a := isq m + 1) (b := isq n) (by omega) (by omega); omega
  · exact h'

theorem icb_mono {n m : Int} (h0 : 0 ≤ n) (h : n ≤ m) (hm : m ≤ 4611686018427387904) : icb n ≤ icb m := by
  obtain ⟨a0, a1, a2⟩ := icb_spec n h0 (by omega)
  obtain ⟨b0, b1, b2⟩ := icb_spec m (by omega) hm
  rcases Int.lt_or_le (icb m) (icb n) with h' | h'
  · have := cb_le (a := icb m + 1) (b := icb n) (by omega) (by omega); omega
  · exact h'

/-- n, divided by 2 so often, taken to the nearest whole number; halves go up. -/
def rnd (n : Int) (b : Nat) : Int := (2 * n + 2 ^ b) / (2 * 2 ^ b)

theorem rnd_bounds (n : Int) (b : Nat) : 2 * (2 ^ b * rnd n b) ≤ 2 * n + 2 ^ b ∧ 2 * n + 2 ^ b < 2 * (2 ^ b * rnd n b) + 2 * 2 ^ b := by
  have hp : (0 : Int) < 2 ^ b := Int.pow_pos (by omega)
  have h1 := Int.mul_ediv_add_emod (2 * n + 2 ^ b) (2 * 2 ^ b)
  have h2 := Int.emod_nonneg (2 * n + 2 ^ b) (show (2 * 2 ^ b : Int) ≠ 0 by omega)
  have h3 := Int.emod_lt_of_pos (2 * n + 2 ^ b) (show (0 : Int) < 2 * 2 ^ b by omega)
  have e : (2 * 2 ^ b : Int) * ((2 * n + 2 ^ b) / (2 * 2 ^ b)) = 2 * (2 ^ b * rnd n b) := by unfold rnd; rw [Int.mul_assoc]
  rw [e] at h1
  omega

theorem rnd_eq {n r : Int} {b : Nat} (h1 : 2 * (2 ^ b * r) ≤ 2 * n + 2 ^ b) (h2 : 2 * n + 2 ^ b < 2 * (2 ^ b * r) + 2 * 2 ^ b) : rnd n b = r := by
  have hp : (0 : Int) < 2 ^ b := Int.pow_pos (by omega)
  unfold rnd
  refine Int.ediv_eq_iff_of_pos (by omega) |>.mpr ⟨?_, ?_⟩
  · have e : r * (2 * 2 ^ b) = 2 * (2 ^ b * r) := by rw [Int.mul_comm, Int.mul_assoc]
    omega
  · have e : r * (2 * 2 ^ b) = 2 * (2 ^ b * r) := by rw [Int.mul_comm, Int.mul_assoc]
    omega

theorem rnd_mono {n m : Int} (b : Nat) (h : n ≤ m) : rnd n b ≤ rnd m b := by
  have hp : (0 : Int) < 2 ^ b := Int.pow_pos (by omega)
  unfold rnd
  exact Int.ediv_le_ediv (by omega) (by omega)

theorem rnd_zero (n : Int) : rnd n 0 = n := rnd_eq (by rw [show (2 : Int) ^ 0 = 1 from rfl]; omega) (by rw [show (2 : Int) ^ 0 = 1 from rfl]; omega)


theorem i64_and1 (n : Int) : Go.bits .and .i64 n 1 = n % 2 := by
  have h1 : (BitVec.ofInt 64 1).toNat = 2 ^ 1 - 1 := by decide
  have key : (BitVec.ofInt 64 n &&& BitVec.ofInt 64 1).toNat = (n % ((2 ^ 64 : Nat) : Int)).toNat % 2 ^ 1 := by
    rw [BitVec.toNat_and, BitVec.toNat_ofInt, h1, Nat.and_two_pow_sub_one_eq_mod]
  show IntKind.i64.wrap ((BitVec.ofInt 64 n &&& BitVec.ofInt 64 1).toNat : Nat) = n % 2
  rw [key, IntKind.wrap_i64]
  omega

open Go.Proofs.YtcfkkdjnalbnoaaW.PrintWords

theorem pow_split (b : Nat) : (2 : Int) ^ (b + 1) = 2 * 2 ^ b := by rw [Int.pow_succ]; omega

theorem pow_le62 {b : Nat} (h : b ≤ 62) : (2 : Int) ^ b ≤ 4611686018427387904 := by
  obtain ⟨d, hd⟩ := Nat.exists_eq_add_of_le h
  have h62 : (2 : Int) ^ 62 = 4611686018427387904 := by decide
  rw [← h62, hd, Int.pow_add]
  have : (0 : Int) < 2 ^ d := Int.pow_pos (by omega)
  have hq : (0 : Int) < 2 ^ b := Int.pow_pos (by omega)
  have := Int.mul_le_mul_of_nonneg_left (show (1 : Int) ≤ 2 ^ d by omega) (show (0 : Int) ≤ 2 ^ b by omega)
  omega

/-- As the code halves. -/
theorem round_code (n : Int) (b : Nat) (hb : b ≤ 61) : shr .i64 n ((b : Int) + 1) + Go.bits .and .i64 (shr .i64 n b) 1 = rnd n (b + 1) := by
  have hp : (0 : Int) < 2 ^ b := Int.pow_pos (by omega)
  rw [i64_and1]
  unfold shr
  rw [Nat.min_eq_left (by simp [IntKind.bits]; omega), Nat.min_eq_left (by simp [IntKind.bits]; omega), show ((b : Int) + 1).toNat = b + 1 from by omega, Int.toNat_natCast, pow_split]
  symm
  have e1 : n / (2 * 2 ^ b) = n / 2 ^ b / 2 := by rw [Int.mul_comm, Int.ediv_ediv_of_nonneg (by omega)]
  have h1 := Int.mul_ediv_add_emod n (2 ^ b)
  have h2 := Int.emod_nonneg n (show (2 ^ b : Int) ≠ 0 by omega)
  have h3 := Int.emod_lt_of_pos n hp
  rw [e1]
  generalize hq : n / 2 ^ b = q at *
  have e2 : q / 2 + q % 2 = (q + 1) / 2 := by omega
  rw [e2]
  apply rnd_eq
  · rw [pow_split, Int.mul_assoc]
    have : 2 ^ b * (2 * ((q + 1) / 2)) ≤ 2 ^ b * (q + 1) := Int.mul_le_mul_of_nonneg_left (by omega) (by omega)
    have e : 2 ^ b * (2 * ((q + 1) / 2)) = 2 * (2 ^ b * ((q + 1) / 2)) := by rw [Int.mul_left_comm]
    rw [Int.mul_add] at this
    omega
  · rw [pow_split, Int.mul_assoc]
    have : 2 ^ b * q ≤ 2 ^ b * (2 * ((q + 1) / 2)) := Int.mul_le_mul_of_nonneg_left (by omega) (by omega)
    have e : 2 ^ b * (2 * ((q + 1) / 2)) = 2 * (2 ^ b * ((q + 1) / 2)) := by rw [Int.mul_left_comm]
    omega
theorem rnd_le (n : Int) (b : Nat) (h0 : -4611686018427387904 ≤ n) (h1 : n ≤ 4611686018427387904) : -4611686018427387904 ≤ rnd n b ∧ rnd n b ≤ 4611686018427387904 := by
  have hp : (0 : Int) < 2 ^ b := Int.pow_pos (by omega)
  obtain ⟨a, c⟩ := rnd_bounds n b
  constructor
  · rcases Int.lt_or_le (rnd n b) (-4611686018427387904) with h | h
    · have : 2 ^ b * rnd n b ≤ 2 ^ b * (-4611686018427387905) := Int.mul_le_mul_of_nonneg_left (by omega) (by omega)
      omega
    · exact h
  · rcases Int.lt_or_le 4611686018427387904 (rnd n b) with h | h
    · have : 2 ^ b * 4611686018427387905 ≤ 2 ^ b * rnd n b := Int.mul_le_mul_of_nonneg_left (by omega) (by omega)
      omega
    · exact h

end Go.Proofs.Ytcfkkdjnalbnoaa
