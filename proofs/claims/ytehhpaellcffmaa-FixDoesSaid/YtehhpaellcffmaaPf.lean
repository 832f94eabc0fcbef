/-
  What the printed functions of package fix come to.
-/
import Derived.Test.YtehhpaellcffmaaPrintF3
import Derived.Test.YtehhpaellcffmaaPrintF1
import Derived.Test.YtehhpaellcffmaaM1
namespace Go.Proofs.Ytehhpaellcffmaa
open Go.RowKit Go.Proofs.YtehhpaellcffmaaW.PrintWords Go.Proofs.YtehhpaellcffmaaW.PrintLast PrintF

def inRound (n b : Int) : Prop := -4611686018427387904 ≤ n ∧ n ≤ 4611686018427387904 ∧ 0 ≤ b ∧ b ≤ 62

theorem round_ok (k : Nat) (n : Int) (b : Nat) (h0 : -4611686018427387904 ≤ n) (h1 : n ≤ 4611686018427387904) (hb : b ≤ 62) : fix_Round.f (k + 1) n b = some (rnd n b, 0) := by
  unfold fix_Round.f
  rw [if_neg (by omega), if_neg (by omega), if_neg (by omega), decide_eq_false (by omega)]
  simp only [fix_Round.j0]
  rw [if_neg (by decide)]
  cases b with
  | zero => rw [if_pos (by decide), rnd_zero]
  | succ b =>
    have hr := rnd_le n (b + 1) h0 h1
    rw [if_neg (by omega), if_pos (by omega)]
    have e : wrap64 (((b + 1 : Nat) : Int) - 1) = b := by unfold wrap64; omega
    rw [e, if_pos (by omega), show (((b + 1 : Nat) : Int)) = (b : Int) + 1 from by omega, round_code n b (by omega)]
    rw [show wrap64 (rnd n (b + 1)) = rnd n (b + 1) from by unfold wrap64; omega]

theorem round_okI (k : Nat) (n b : Int) (h : inRound n b) : fix_Round.f (k + 1) n b = some (rnd n b.toNat, 0) := by
  obtain ⟨h0, h1, h2, h3⟩ := h
  have := round_ok k n b.toNat h0 h1 (by omega)
  rwa [Int.toNat_of_nonneg h2] at this

theorem round_no (k : Nat) (n b : Int) (h : ¬ inRound n b) : fix_Round.f (k + 1) n b = some (0, 2) := by
  unfold inRound at h
  unfold fix_Round.f
  simp only [fix_Round.j0, if_true]
  by_cases h0 : n < -4611686018427387904
  · rw [if_pos h0]
  · rw [if_neg h0]
    by_cases h1 : n > 4611686018427387904
    · rw [if_pos h1]
    · rw [if_neg h1]
      by_cases h2 : b < 0
      · rw [if_pos h2]
      · rw [if_neg h2, decide_eq_true (by omega), if_pos rfl]

theorem alive03 (k : Nat) : reedpipelaw03_alive.f (k + 1) = some true := by
  have e1 := round_ok k 5 1 (by decide) (by decide) (by decide)
  have e2 : rnd 5 1 = 3 := by decide
  have e3 : isq 99 = 9 := isq_eq (by decide) (by decide) (by decide) (by decide)
  unfold reedpipelaw03_alive.f fix_Sqrt.f
  rw [show (1 : Int) = ((1 : Nat) : Int) from rfl, e1, e2, e3]
  rfl
end Go.Proofs.Ytehhpaellcffmaa
