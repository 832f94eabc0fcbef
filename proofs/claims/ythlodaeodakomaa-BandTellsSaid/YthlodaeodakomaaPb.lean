/-
  What the printed functions of package band come to.
-/
import Derived.Test.YthlodaeodakomaaPrintB2
import Derived.Test.YthlodaeodakomaaPrintB9
namespace Go.Proofs.Ythlodaeodakomaa
open Go.RowKit Go.Proofs.YthlodaeodakomaaW.PrintWords Go.Proofs.YthlodaeodakomaaW.PrintLast PrintB

theorem offs_no (rate : Int) (short : Bool) (h : ¬ (0 ≤ rate ∧ rate ≤ 11)) : band_Offsets.f rate short = some ([], 2) := by
  unfold band_Offsets.f
  by_cases h1 : rate < 0
  · rw [if_pos h1]
  · rw [if_neg h1, if_pos (by omega)]

theorem offs_yes (rate : Int) (short : Bool) (h : 0 ≤ rate ∧ rate ≤ 11) : band_Offsets.f rate short = some (offs rate short, 0) := by
  unfold band_Offsets.f
  rw [if_neg (by omega), if_neg (by omega)]

theorem alive06 : reedpipelaw06_alive.f 400 = some true := by decide +kernel

/-- The lines of a window. -/
def lns (short : Bool) : Int := if short then 32 else 256

theorem offs_last : ∀ r, r < 12 → ∀ short : Bool, rd (offs (r : Nat) short) (wrap64 (((offs (r : Nat) short).length : Int) - 1)) = lns short ∧ 2 ≤ (offs (r : Nat) short).length ∧ (offs (r : Nat) short).length ≤ 41 := by decide +kernel

theorem of_no (k : Nat) (rate : Int) (short : Bool) (line : Int) (h : ¬ (0 ≤ rate ∧ rate ≤ 11)) : band_Of.f k rate short line = some (0, 2) := by
  unfold band_Of.f
  rw [offs_no _ _ h]
  rfl

theorem of_out (k : Nat) (rate : Int) (short : Bool) (line : Int) (h : 0 ≤ rate ∧ rate ≤ 11) (hl : line < 0 ∨ lns short ≤ line) : band_Of.f (k + 1) rate short line = some (0, 2) := by
  unfold band_Of.f
  rw [offs_yes _ _ h]
  simp only [Option.bind_some, ↓reduceIte, band_Of.j0]
  by_cases h0 : line < 0
  · rw [if_pos h0]
  · obtain ⟨a, b, c⟩ := offs_last rate.toNat (by omega) short
    rw [Int.toNat_of_nonneg h.1] at a b c
    have e : wrap64 (((offs rate short).length : Int) - 1) = ((offs rate short).length : Int) - 1 := by unfold wrap64; omega
    rw [if_neg h0, a, e, if_pos (by omega), if_pos (by omega), decide_eq_true (by omega), if_pos rfl]
end Go.Proofs.Ythlodaeodakomaa
