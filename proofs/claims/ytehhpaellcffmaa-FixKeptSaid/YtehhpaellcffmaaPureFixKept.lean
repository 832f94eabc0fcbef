/-
  A number that is kept is in its bits, stays if it was, rises as the number does, and kept twice is kept once: any numbers, without a condition.
-/
import Derived.Test.YtehhpaellcffmaaPrintK5
import Derived.Test.YtehhpaellcffmaaM1
namespace Go.Proofs.Ytehhpaellcffmaa.Pure
open Go.RowKit Go.Proofs.Ytehhpaellcffmaa Go.Proofs.Ytehhpaellcffmaa.PrintK Go.Proofs.YtehhpaellcffmaaW.PrintWords Go.Proofs.YtehhpaellcffmaaW.PrintLast

theorem clip_no (x b : Int) (h : b < 1 ∨ b > 62) : fix_Clip.f x b = some (0, 2) := by
  unfold fix_Clip.f
  by_cases h1 : b < 1
  · rw [if_pos h1]
  · rw [if_neg h1, if_pos (by omega)]

theorem one_shl (b : Int) (h1 : 1 ≤ b) (h2 : b ≤ 62) : ∃ P, shl .i64 1 (wrap64 (b - 1)) = P ∧ 1 ≤ P ∧ P ≤ 2305843009213693952 := by
  obtain ⟨j, rfl⟩ : ∃ j : Nat, b = (j : Int) + 1 := ⟨(b - 1).toNat, by omega⟩
  have hj : j < 62 := by omega
  rw [show wrap64 ((j : Int) + 1 - 1) = (j : Int) from by unfold wrap64; omega]
  have : ∀ j : Fin 62, 1 ≤ shl .i64 1 ((j.1 : Nat) : Int) ∧ shl .i64 1 ((j.1 : Nat) : Int) ≤ 2305843009213693952 := by decide +kernel
  exact ⟨_, rfl, (this ⟨j, hj⟩).1, (this ⟨j, hj⟩).2⟩

theorem FixKept : reedpipelaw03_FixKept.Pure := by
  intro n m b hn hm hb
  refine ⟨4, ?_⟩
  unfold reedpipelaw03_FixKept.f
  rw [show reedpipelaw03_alive.f 4 = some true from by decide +kernel]
  simp only [Option.bind_some]
  by_cases h1 : b < 1
  · rw [clip_no n b (Or.inl h1), clip_no m b (Or.inl h1)]
    simp [h1]
  by_cases h2 : b > 62
  · rw [clip_no n b (Or.inr h2), clip_no m b (Or.inr h2)]
    simp [h2]
  obtain ⟨P, hP, p1, p2⟩ := one_shl b (by omega) (by omega)
  have hw : 0 ≤ wrap64 (b - 1) := by unfold wrap64; omega
  have e1 : wrap64 (P - 1) = P - 1 := by unfold wrap64; omega
  have e2 : wrap64 (wrap64 (-(P - 1)) - 1) = -P := by unfold wrap64; omega
  have clip : ∀ x, fix_Clip.f x b = some (mn (mx x (-P)) (P - 1), 0) := fun x => by
    unfold fix_Clip.f
    rw [if_neg h1, if_neg h2, if_pos hw, hP, e1, e2]
  rw [clip n, clip m]
  simp only [Option.bind_some]
  rw [if_neg h1, if_neg h2, clip]
  simp only [Option.bind_some]
  rw [if_pos hw, hP, e1, e2]
  generalize hA : mn (mx n (-P)) (P - 1) = A
  generalize hB : mn (mx m (-P)) (P - 1) = B
  generalize hC : mn (mx A (-P)) (P - 1) = C
  have a : A = if n < -P then -P else if n > P - 1 then P - 1 else n := by rw [← hA]; unfold mn mx; split <;> split <;> omega
  have b' : B = if m < -P then -P else if m > P - 1 then P - 1 else m := by rw [← hB]; unfold mn mx; split <;> split <;> omega
  have c : C = A := by rw [← hC]; unfold mn mx; split <;> split <;> omega
  clear hA hB hC clip hP hw e1 e2
  rw [c]
  simp only [if_true]
  have key : ∀ x y : Bool, x = y → (some (x == y) : Option Bool) = some true := by intro x y h; subst h; cases x <;> rfl
  have k1 : A ≥ -P ∧ A ≤ P - 1 := by rw [a]; split <;> (try split) <;> omega
  have k2 : n ≤ m → A ≤ B := by intro h; rw [a, b']; split <;> split <;> (try split) <;> (try split) <;> omega
  have k3 : n ≥ -P → n ≤ P - 1 → A = n := by intro h h'; rw [a, if_neg (by omega), if_neg (by omega)]
  have k4 : n < -P → A = -P := fun h => by rw [a, if_pos h]
  have k5 : n > P - 1 → A = P - 1 := fun h => by rw [a, if_neg (by omega), if_pos h]
  have k6 : ¬ (n ≥ -P ∧ n ≤ P - 1) → (some (decide (n > 0) == (A == P - 1)) : Option Bool) = some true := by
    intro h
    refine key _ _ ?_
    by_cases h3 : n < -P
    · rw [k4 h3, decide_eq_false (by omega)]; exact (beq_eq_false_iff_ne.mpr (by omega)).symm
    · rw [k5 (by omega), decide_eq_true (by omega)]; exact (beq_iff_eq.mpr rfl).symm
  clear a b'
  by_cases h3 : n ≥ -P
  · rw [if_pos h3, if_pos k1.1, if_pos k1.2]
    by_cases h4 : n ≤ P - 1
    · rw [if_pos h4, if_pos (k3 h3 h4)]
      by_cases h5 : n > m
      · rw [if_pos h5, if_pos h4]
      · rw [if_neg h5, if_pos (k2 (by omega)), if_pos h4]
    · rw [if_neg h4]
      by_cases h5 : n > m
      · rw [if_pos h5, if_neg h4]; exact k6 (by omega)
      · rw [if_neg h5, if_pos (k2 (by omega)), if_neg h4]; exact k6 (by omega)
  · rw [if_neg h3, if_pos k1.1, if_pos k1.2]
    by_cases h5 : n > m
    · rw [if_pos h5]; exact k6 (by omega)
    · rw [if_neg h5, if_pos (k2 (by omega))]; exact k6 (by omega)

end Go.Proofs.Ytehhpaellcffmaa.Pure
