/-
  Two numbers rounded off are together as their sum is, to 1; a number rounded off twice is off by 1 at most from being so once; a number that is turned over is rounded off to the turned one, or one more: for any two numbers and any bits, without a condition.
-/
import Derived.Test.YtehhpaellcffmaaPrintF5
import Derived.Test.YtehhpaellcffmaaPf
import Derived.Test.YtehhpaellcffmaaM2
namespace Go.Proofs.Ytehhpaellcffmaa.Pure
open Go.RowKit Go.Proofs.Ytehhpaellcffmaa.PrintF Go.Proofs.YtehhpaellcffmaaW.PrintWords Go.Proofs.YtehhpaellcffmaaW.PrintLast

theorem round_any (k : Nat) (n b : Int) : (inRound n b ∧ fix_Round.f (k + 1) n b = some (rnd n b.toNat, 0)) ∨ (¬ inRound n b ∧ fix_Round.f (k + 1) n b = some (0, 2)) := by
  by_cases h : inRound n b
  · exact .inl ⟨h, round_okI k n b h⟩
  · exact .inr ⟨h, round_no k n b h⟩

theorem FixSums : reedpipelaw03_FixSums.Pure := by
  intro n m a b hn hm ha hb
  refine ⟨4, ?_⟩
  unfold reedpipelaw03_FixSums.f
  rw [alive03 3]
  simp only [Option.bind_some]
  by_cases hbig : n > 1152921504606846976 ∨ n < -1152921504606846976 ∨ m > 1152921504606846976 ∨ m < -1152921504606846976
  · have e : ∀ x, reedpipelaw03_FixSums.j0 4 n m a b x true = some x := fun x => by simp only [reedpipelaw03_FixSums.j0, ↓reduceIte]
    rw [e]
    repeat' split
    all_goals first | rfl | (rw [decide_eq_true (by omega), e])
  · have hn1 : -1152921504606846976 ≤ n ∧ n ≤ 1152921504606846976 := by omega
    have hm1 : -1152921504606846976 ≤ m ∧ m ≤ 1152921504606846976 := by omega
    rw [if_neg (by omega), if_neg (by omega), if_neg (by omega), decide_eq_false (by omega)]
    simp only [reedpipelaw03_FixSums.j0, Bool.false_eq_true, ↓reduceIte]
    have es : wrap64 (n + m) = n + m := by unfold wrap64; omega
    have en : wrap64 (-n) = -n := by unfold wrap64; omega
    rw [es, en]
    by_cases h : 0 ≤ a ∧ a ≤ 62
    · have h1 : inRound n a := ⟨by omega, by omega, h.1, h.2⟩
      have h2 : inRound m a := ⟨by omega, by omega, h.1, h.2⟩
      have h3 : inRound (n + m) a := ⟨by omega, by omega, h.1, h.2⟩
      have h4 : inRound (-n) a := ⟨by omega, by omega, h.1, h.2⟩
      rw [round_okI 2 _ _ h1, round_okI 2 _ _ h2, round_okI 2 _ _ h3, round_okI 2 _ _ h4]
      simp only [Option.bind_some, ↓reduceIte]
      obtain ⟨s1, s2⟩ := rnd_sum n m a.toNat
      have s3 := rnd_neg n a.toNat
      have b1 := rnd_le n a.toNat (by omega) (by omega)
      have b2 := rnd_le m a.toNat (by omega) (by omega)
      have b3 := rnd_le (n + m) a.toNat (by omega) (by omega)
      have b4 := rnd_le (-n) a.toNat (by omega) (by omega)
      have w1 : wrap64 (wrap64 (rnd n a.toNat + rnd m a.toNat) - rnd (n + m) a.toNat) = rnd n a.toNat + rnd m a.toNat - rnd (n + m) a.toNat := by unfold wrap64; omega
      have w2 : wrap64 (rnd n a.toNat + rnd (-n) a.toNat) = rnd n a.toNat + rnd (-n) a.toNat := by unfold wrap64; omega
      rw [w1, w2, if_neg (by omega), if_neg (by omega)]
      have hj : reedpipelaw03_FixSums.j1 3 n a b true (rnd n a.toNat) false = some true := by
        simp only [reedpipelaw03_FixSums.j1, Bool.false_eq_true, ↓reduceIte]
        rcases round_any 1 (rnd n a.toNat) b with ⟨hi, hr⟩ | ⟨hi, hr⟩
        · rw [hr]
          obtain ⟨_, _, i1, i2⟩ := hi
          simp only [Option.bind_some, ↓reduceIte]
          have w3 : wrap64 (a + b) = a + b := by unfold wrap64; omega
          rw [w3]
          by_cases hab : a + b > 62
          · rw [if_pos hab]
          · rw [if_neg hab, round_okI 1 n (a + b) ⟨by omega, by omega, by omega, by omega⟩]
            simp only [Option.bind_some, ↓reduceIte]
            have hm := rnd_twice n a.toNat b.toNat
            have et : (a + b).toNat = a.toNat + b.toNat := by omega
            rw [et]
            have b5 := rnd_le n (a.toNat + b.toNat) (by omega) (by omega)
            have w4 : wrap64 (rnd n (a.toNat + b.toNat) + 1) = rnd n (a.toNat + b.toNat) + 1 := by unfold wrap64; omega
            rw [w4]
            rcases hm with hm | hm
            · rw [if_pos hm]
            · rw [if_neg (by omega), hm]; simp
        · rw [hr]
          simp
      rcases s3 with s3 | s3
      · rw [if_pos s3]; exact hj
      · rw [s3, if_neg (by decide), show ((1 : Int) != 1) = false from rfl]; exact hj
    · have h1 : ¬ inRound n a := fun x => h ⟨x.2.2.1, x.2.2.2⟩
      have h2 : ¬ inRound m a := fun x => h ⟨x.2.2.1, x.2.2.2⟩
      have h3 : ¬ inRound (n + m) a := fun x => h ⟨x.2.2.1, x.2.2.2⟩
      have h4 : ¬ inRound (-n) a := fun x => h ⟨x.2.2.1, x.2.2.2⟩
      rw [round_no 2 _ _ h1, round_no 2 _ _ h2, round_no 2 _ _ h3, round_no 2 _ _ h4]
      simp

end Go.Proofs.Ytehhpaellcffmaa.Pure
