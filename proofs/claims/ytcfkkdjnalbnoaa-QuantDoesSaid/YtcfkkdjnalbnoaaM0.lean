/-
  Roots, bit by bit: plain words.
-/
import Derived.WalkKit
import Derived.Laws.BitsLemmas
import Derived.Lib.Hide
namespace Go.Proofs.Ytcfkkdjnalbnoaa
open Go.RowKit

def g2 (n r : Int) : Bool := if 2147483649 ≤ r then true else decide (n < r * r)

def g3 (n r : Int) : Bool := decide (n < r * r * r)

def rgo (g : Int → Bool) : Nat → Int → Int
  | 0, r => r
  | k + 1, r => rgo g k (if g (r + 2 ^ k) then r else r + 2 ^ k)


theorem rgo_le (g : Int → Bool) : ∀ (k : Nat) (r : Int), r ≤ rgo g k r ∧ rgo g k r < r + 2 ^ k
  | 0, r => by simp only [rgo]; omega
  | k + 1, r => by
    simp only [rgo]
    have hp : (0 : Int) < 2 ^ k := Int.pow_pos (by omega)
    have e : (2 : Int) ^ (k + 1) = 2 * 2 ^ k := by rw [Int.pow_succ]; omega
    by_cases h : g (r + 2 ^ k) = true
    · rw [if_pos h]; have := rgo_le g k r; omega
    · rw [if_neg h]; have := rgo_le g k (r + 2 ^ k); omega

theorem or_pow (x : Int) (j bits : Nat) (hb : bits ≤ 32) (_hj : (j : Int) < bits) (hx0 : 0 ≤ x) (hxm : x % 2 ^ ((j : Int) + 1).toNat = 0) (hxb : x + 2 ^ ((j : Int) + 1).toNat ≤ 2 ^ bits) :
    Go.bits BinOp.or IntKind.i64 x (wrap64 (2 ^ j)) = x + 2 ^ j ∧ 0 < x + 2 ^ j ∧ x + 2 ^ j < 2 ^ bits ∧ (x + 2 ^ j) % 2 ^ j = 0 ∧ x % 2 ^ j = 0 ∧ x + 2 ^ j ≤ 2 ^ bits ∧ x + 2 ^ j + 2 ^ j ≤ 2 ^ bits := by
  have ej : ((j : Int) + 1).toNat = j + 1 := by omega
  rw [ej] at hxm hxb
  have hp : (0 : Int) < 2 ^ j := Int.pow_pos (by omega)
  have e : (2 : Int) ^ (j + 1) = 2 * 2 ^ j := by rw [Int.pow_succ]; omega
  have h32 : (2 : Int) ^ bits ≤ 2 ^ 32 := by
    obtain ⟨d, hd⟩ := Nat.exists_eq_add_of_le hb
    rw [hd, Int.pow_add]
    have : (0 : Int) < 2 ^ d := Int.pow_pos (by omega)
    have hq : (0 : Int) < 2 ^ bits := Int.pow_pos (by omega)
    calc (2 : Int) ^ bits = 2 ^ bits * 1 := by omega
      _ ≤ 2 ^ bits * 2 ^ d := Int.mul_le_mul_of_nonneg_left (by omega) (by omega)
  have h32' : (2 : Int) ^ 32 = 4294967296 := by decide
  have hw : wrap64 (2 ^ j) = 2 ^ j := by unfold wrap64; omega
  have hxj : x % 2 ^ j = 0 := by
    have hd : (2 : Int) ^ (j + 1) ∣ x := Int.dvd_of_emod_eq_zero hxm
    have hd2 : (2 : Int) ^ j ∣ 2 ^ (j + 1) := ⟨2, by rw [Int.pow_succ]⟩
    exact Int.emod_eq_zero_of_dvd (Int.dvd_trans hd2 hd)
  refine ⟨?_, by omega, by omega, by rw [Int.add_emod_right]; exact hxj, hxj, by omega, by omega⟩
  rw [hw]
  have h62 : (2 : Int) ^ 62 = 4611686018427387904 := by decide
  exact bits_join .i64 62 (by decide) (fun n h0 h1 => by rw [IntKind.wrap_i64]; omega) (j + 1) x (2 ^ j) hx0 hxm (by omega) (by omega) (by omega) (by omega)

def isq (n : Int) : Int := rgo (g2 n) 32 0
def icb (n : Int) : Int := rgo (g3 n) 21 0

end Go.Proofs.Ytcfkkdjnalbnoaa
