/-
  What fix.Round rounds off is off by a half at most, halves go up, and it rises as the number does: for any two numbers and any bits, without a condition.
-/
import Derived.Test.YtehhpaellcffmaaPrintF4
import Derived.Test.YtehhpaellcffmaaPf
namespace Go.Proofs.Ytehhpaellcffmaa.Pure
open Go.RowKit Go.Proofs.Ytehhpaellcffmaa.PrintF Go.Proofs.YtehhpaellcffmaaW.PrintWords Go.Proofs.YtehhpaellcffmaaW.PrintLast

theorem FixNear : reedpipelaw03_FixNear.Pure := by
  intro n m b hn hm hb
  refine ⟨2, ?_⟩
  unfold reedpipelaw03_FixNear.f
  rw [alive03 1]
  simp only [Option.bind_some]
  by_cases h1 : inRound n b
  · rw [round_okI 1 n b h1]
    by_cases h2 : inRound m b
    · rw [round_okI 1 m b h2]
      simp only [Option.bind_some, ↓reduceIte]
      simp only [reedpipelaw03_FixNear.j0]
      rw [if_neg (by decide)]
      have hmono : n ≤ m → rnd n b.toNat ≤ rnd m b.toNat := fun h => rnd_mono _ h
      obtain ⟨c0, c1, c2, c3⟩ := h1
      obtain ⟨d0, d1, d2, d3⟩ := h2
      have hfin : (if n > m then some true else some (decide (rnd n b.toNat ≤ rnd m b.toNat))) = some true := by
        by_cases h : n > m
        · rw [if_pos h]
        · rw [if_neg h, decide_eq_true (hmono (by omega))]
      by_cases hb0 : b = 0
      · subst hb0
        have e1 : rnd n (0 : Int).toNat = n := rnd_zero n
        have e2 : rnd m (0 : Int).toNat = m := rnd_zero m
        rw [if_pos (by omega), if_pos trivial, if_pos rfl, if_pos e1, if_pos e2]
        exact hfin
      · rw [if_neg (by omega)]
        by_cases hb60 : b > 60
        · rw [if_pos hb60, if_pos trivial, if_neg hb0]
          exact hfin
        · rw [if_neg hb60, if_pos (by omega)]
          obtain ⟨j, rfl⟩ : ∃ j : Nat, b = (j : Int) + 1 := ⟨(b - 1).toNat, by omega⟩
          have ew : wrap64 ((j : Int) + 1 - 1) = j := by unfold wrap64; omega
          rw [ew, if_pos (by omega), if_pos trivial]
          have et : ((j : Int) + 1).toNat = j + 1 := by omega
          rw [et] at hfin ⊢
          obtain ⟨r1, r2⟩ := rnd_bounds n (j + 1)
          have hp : (0 : Int) < 2 ^ j := Int.pow_pos (by omega)
          have hj : (2 : Int) ^ j ≤ 2 ^ 60 := by
            obtain ⟨d, hd⟩ := Nat.exists_eq_add_of_le (show j ≤ 60 by omega)
            rw [hd, Int.pow_add]
            have : (0 : Int) < 2 ^ d := Int.pow_pos (by omega)
            have := Int.mul_le_mul_of_nonneg_left (show (1 : Int) ≤ 2 ^ d by omega) (show (0 : Int) ≤ 2 ^ j by omega)
            omega
          have h60 : (2 : Int) ^ 60 = 1152921504606846976 := by decide
          have es : shl .i64 1 j = 2 ^ j := by
            unfold shl
            rw [Nat.min_eq_left (by simp [IntKind.bits]; omega), IntKind.wrap_i64, Int.toNat_natCast]
            omega
          rw [es]
          rw [pow_split] at r1 r2
          have ea : 2 ^ (j + 1) * rnd n (j + 1) = 2 * (2 ^ j * rnd n (j + 1)) := by rw [pow_split, Int.mul_assoc]
          have es2 : shl .i64 (rnd n (j + 1)) ((j : Int) + 1) = 2 * (2 ^ j * rnd n (j + 1)) := by
            unfold shl
            rw [Nat.min_eq_left (by simp [IntKind.bits]; omega), IntKind.wrap_i64, et, Int.mul_comm, ea]
            rw [Int.mul_assoc] at r1 r2
            omega
          rw [es2]
          rw [Int.mul_assoc] at r1 r2
          have e3 : wrap64 (n - 2 * (2 ^ j * rnd n (j + 1))) = n - 2 * (2 ^ j * rnd n (j + 1)) := by unfold wrap64; omega
          have e4 : wrap64 (-2 ^ j) = -2 ^ j := by unfold wrap64; omega
          rw [e3, e4, if_pos (by omega), if_pos (by omega)]
          exact hfin
    · rw [round_no 1 m b h2]
      simp only [Option.bind_some, ↓reduceIte]
      simp only [reedpipelaw03_FixNear.j0]
      unfold inRound at h1 h2
      rw [if_pos (by decide), if_pos trivial, if_pos trivial]
      all_goals (repeat' split)
      all_goals first | rfl | (rw [decide_eq_true (by omega)])
  · rw [round_no 1 n b h1]
    unfold inRound at h1
    by_cases h2 : inRound m b
    · rw [round_okI 1 m b h2]
      unfold inRound at h2
      simp only [Option.bind_some]
      rw [if_neg (by decide)]
      simp only [reedpipelaw03_FixNear.j0]
      rw [if_pos trivial, if_pos trivial, if_neg (by decide), if_pos trivial, if_pos trivial]
      all_goals (repeat' split)
      all_goals first | rfl | (rw [decide_eq_true (by omega)])
    · rw [round_no 1 m b h2]
      unfold inRound at h2
      simp only [Option.bind_some]
      rw [if_neg (by decide)]
      simp only [reedpipelaw03_FixNear.j0]
      rw [if_pos trivial, if_pos trivial, if_neg (by decide), if_pos trivial, if_pos trivial]
      by_cases q1 : b < 0
      · rw [if_pos q1]
      · rw [if_neg q1]
        by_cases q2 : b > 62
        · rw [if_pos q2]
        · rw [if_neg q2]
          by_cases q3 : n > 4611686018427387904
          · rw [if_pos q3]
          · rw [if_neg q3, if_pos (by omega)]

end Go.Proofs.Ytehhpaellcffmaa.Pure
