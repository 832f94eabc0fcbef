/-
  A greater rate has at least as many bands, each of which begins no later: any two rates and kind of window, without a condition.
-/
import Derived.Test.YthlodaeodakomaaPrintB4
namespace Go.Proofs.Ythlodaeodakomaa.Pure
open Go.RowKit Go.Proofs.Ythlodaeodakomaa.PrintB Go.Proofs.YthlodaeodakomaaW.PrintWords Go.Proofs.YthlodaeodakomaaW.PrintLast

theorem offs_no (rate : Int) (short : Bool) (h : ¬ (0 ≤ rate ∧ rate ≤ 11)) : band_Offsets.f rate short = some ([], 2) := by
  unfold band_Offsets.f
  by_cases h1 : rate < 0
  · rw [if_pos h1]
  · rw [if_neg h1, if_pos (by omega)]

theorem offs_yes (rate : Int) (short : Bool) (h : 0 ≤ rate ∧ rate ≤ 11) : band_Offsets.f rate short = some (offs rate short, 0) := by
  unfold band_Offsets.f
  rw [if_neg (by omega), if_neg (by omega)]

def ratesOk (a b : Nat) (short : Bool) : Bool := reedpipelaw06_BandRates.j0 400 true (offs a short) (offs b short) (!true) == some true

theorem rates_all : ∀ a, a < 12 → ∀ b, b < 12 → a ≤ b → ∀ short : Bool, ratesOk a b short = true := by decide +kernel

theorem BandRates : reedpipelaw06_BandRates.Pure := by
  intro a b short _ _
  refine ⟨400, ?_⟩
  have ea : reedpipelaw06_alive.f 400 = some true := by decide +kernel
  have hj : ∀ x y, reedpipelaw06_BandRates.j0 400 true x y true = some true := fun x y => by simp only [reedpipelaw06_BandRates.j0, ↓reduceIte]
  unfold reedpipelaw06_BandRates.f
  rw [ea]
  simp only [Option.bind_some]
  by_cases h1 : 0 ≤ mn a b ∧ mn a b ≤ 11
  · rw [offs_yes _ _ h1]
    by_cases h2 : 0 ≤ mx a b ∧ mx a b ≤ 11
    · rw [offs_yes _ _ h2]
      simp only [Option.bind_some, ↓reduceIte]
      have hle : mn a b ≤ mx a b := by unfold mn mx; split <;> split <;> omega
      have := rates_all (mn a b).toNat (by omega) (mx a b).toNat (by omega) (by omega) short
      unfold ratesOk at this
      rw [Int.toNat_of_nonneg h1.1, Int.toNat_of_nonneg h2.1] at this
      exact eq_of_beq this
    · rw [offs_no _ _ h2]
      simp only [Option.bind_some, ↓reduceIte]
      rw [if_neg (by decide)]
      exact hj _ _
  · rw [offs_no _ _ h1]
    have : ∃ r, band_Offsets.f (mx a b) short = some r := by
      by_cases h2 : 0 ≤ mx a b ∧ mx a b ≤ 11
      · exact ⟨_, offs_yes _ _ h2⟩
      · exact ⟨_, offs_no _ _ h2⟩
    obtain ⟨r, hr⟩ := this
    rw [hr]
    simp only [Option.bind_some]
    rw [if_neg (by decide)]
    exact hj _ _

end Go.Proofs.Ythlodaeodakomaa.Pure
