/-
  Lists that are not great.
-/
import Derived.Test.YtcfkkdjnalbnoaaPrintD1
import Derived.Test.YtcfkkdjnalbnoaaQa
namespace Go.Proofs.Ytcfkkdjnalbnoaa
open Go.RowKit Go.Proofs.YtcfkkdjnalbnoaaW.PrintWords Go.Proofs.YtcfkkdjnalbnoaaW.PrintLast Go.Proofs.YtcfkkdjnalbnoaaW.PrintMore PrintD

theorem great_l1 (x2 : List (List Int)) (h : x2.length ≤ 100) : ∀ (d k i : Nat) (s : Int), i ≤ x2.length → x2.length - i = d → d < k → ∃ b, reedpiperef14_Great.l1 k x2 s i = some b
  | d, 0, _, _, _, _, hk => by omega
  | 0, k + 1, i, s, hi, hd, _ => by
    have e : i = x2.length := by omega
    subst e
    exact ⟨_, by simp only [reedpiperef14_Great.l1]; rw [if_neg (by omega)]⟩
  | d + 1, k + 1, i, s, hi, hd, hk => by
    simp only [reedpiperef14_Great.l1]
    rw [if_pos (by omega), if_pos (by omega)]
    have e : wrap64 ((i : Int) + 1) = ((i + 1 : Nat) : Int) := by unfold wrap64; omega
    rw [e]
    exact great_l1 x2 h d k (i + 1) _ (by omega) (by omega) (by omega)
theorem great_l0 (x1 x2 : List (List Int)) (h1 : x1.length ≤ 100) (h2 : x2.length ≤ 100) : ∀ (d k i : Nat) (s : Int), i ≤ x1.length → x1.length - i = d → d + 101 < k → ∃ b, reedpiperef14_Great.l0 k x1 x2 s i = some b
  | d, 0, _, _, _, _, hk => by omega
  | 0, k + 1, i, s, hi, hd, hk => by
    have e : i = x1.length := by omega
    subst e
    simp only [reedpiperef14_Great.l0]
    rw [if_neg (by omega)]
    exact great_l1 x2 h2 x2.length k 0 s (by omega) (by omega) (by omega)
  | d + 1, k + 1, i, s, hi, hd, hk => by
    simp only [reedpiperef14_Great.l0]
    rw [if_pos (by omega), if_pos (by omega)]
    have e : wrap64 ((i : Int) + 1) = ((i + 1 : Nat) : Int) := by unfold wrap64; omega
    rw [e]
    exact great_l0 x1 x2 h1 h2 d k (i + 1) _ (by omega) (by omega) (by omega)
theorem great_is (k : Nat) (hk : 300 ≤ k) (seq shape max : Int) (gs : List Int) (books steps : List (List Int)) (l : List Int) :
    reedpiperef14_Great.f k seq shape max gs books steps l = some true ∨ (reedpiperef14_Great.f k seq shape max gs books steps l = some false ∧ gs.length ≤ 100 ∧ books.length ≤ 100 ∧ steps.length ≤ 100 ∧ l.length ≤ 1000) := by
  obtain ⟨k, rfl⟩ : ∃ j, k = j + 1 := ⟨k - 1, by omega⟩
  unfold reedpiperef14_Great.f
  by_cases h0 : (gs.length : Int) > 100
  · rw [if_pos h0]; simp only [reedpiperef14_Great.j0]; exact .inl (if_pos (by trivial))
  · rw [if_neg h0]
    by_cases h1 : (books.length : Int) > 100
    · rw [if_pos h1]; simp only [reedpiperef14_Great.j0]; exact .inl (if_pos (by trivial))
    · rw [if_neg h1]
      by_cases h2 : (steps.length : Int) > 100
      · rw [if_pos h2]; simp only [reedpiperef14_Great.j0]; exact .inl (if_pos (by trivial))
      · rw [if_neg h2]
        by_cases h3 : (l.length : Int) > 1000
        · rw [decide_eq_true h3]; simp only [reedpiperef14_Great.j0]; exact .inl (if_pos (by trivial))
        · rw [decide_eq_false h3]
          simp only [reedpiperef14_Great.j0]
          rw [if_neg (by decide)]
          obtain ⟨b, hb⟩ := great_l0 books steps (by omega) (by omega) books.length k 0 0 (by omega) (by omega) (by omega)
          have hb : reedpiperef14_Great.l0 k books steps 0 0 = some b := hb
          rw [hb]
          cases b
          · exact .inr ⟨rfl, by omega, by omega, by omega, by omega⟩
          · exact .inl rfl
/-- Sizes that the calls ask. -/
theorem sized_of {gs : List Int} {books steps : List (List Int)} {l : List Int} (h0 : gs.length ≤ 100) (h1 : books.length ≤ 100) (h2 : steps.length ≤ 100) (h3 : l.length ≤ 1000) : sized gs books steps l := ⟨by omega, by omega, by omega, by omega⟩
end Go.Proofs.Ytcfkkdjnalbnoaa
