/-
  Each line is in just the band that begins at it, or ahead of it, and ends behind it: any rate, kind of window and line, without a condition.
-/
import Derived.Test.YthlodaeodakomaaPrintB10
import Derived.Test.YthlodaeodakomaaPb
namespace Go.Proofs.Ythlodaeodakomaa.Pure
open Go.RowKit Go.Proofs.Ythlodaeodakomaa.PrintB Go.Proofs.YthlodaeodakomaaW.PrintWords Go.Proofs.YthlodaeodakomaaW.PrintLast

def lineOk (r : Nat) (short : Bool) (line : Nat) : Bool := reedpipelaw06_BandLines.f 400 r short line == some true

theorem long_all : ∀ r, r < 12 → ∀ line, line < 256 → lineOk r false line = true := by decide +kernel
theorem short_all : ∀ r, r < 12 → ∀ line, line < 32 → lineOk r true line = true := by decide +kernel

theorem BandLines : reedpipelaw06_BandLines.Pure := by
  intro rate short line _ _
  refine ⟨400, ?_⟩
  by_cases h : 0 ≤ rate ∧ rate ≤ 11
  · by_cases hl : line < 0 ∨ lns short ≤ line
    · unfold reedpipelaw06_BandLines.f
      obtain ⟨a, b, c⟩ := offs_last rate.toNat (by omega) short
      rw [Int.toNat_of_nonneg h.1] at a b c
      rw [alive06, offs_yes _ _ h, of_out 399 _ _ _ h hl]
      simp only [Option.bind_some]
      rw [if_neg (by decide), if_pos trivial, if_pos trivial, if_pos trivial]
      have e : wrap64 (((offs rate short).length : Int) - 1) = ((offs rate short).length : Int) - 1 := by unfold wrap64; omega
      by_cases h0 : line < 0
      · rw [if_pos h0]
      · rw [if_neg h0, a, e, if_pos (by omega), if_pos (by omega), decide_eq_true (by omega)]
    · have : ∀ s, short = s → reedpipelaw06_BandLines.f 400 rate s line = some true := by
        intro s hs
        cases s with
        | false =>
          subst hs
          simp only [lns, Bool.false_eq_true, ↓reduceIte] at hl
          have := long_all rate.toNat (by omega) line.toNat (by omega)
          unfold lineOk at this
          rw [Int.toNat_of_nonneg h.1, Int.toNat_of_nonneg (by omega)] at this
          exact eq_of_beq this
        | true =>
          subst hs
          simp only [lns, ↓reduceIte] at hl
          have := short_all rate.toNat (by omega) line.toNat (by omega)
          unfold lineOk at this
          rw [Int.toNat_of_nonneg h.1, Int.toNat_of_nonneg (by omega)] at this
          exact eq_of_beq this
      exact this short rfl
  · unfold reedpipelaw06_BandLines.f
    rw [alive06, offs_no _ _ h, of_no 400 _ _ _ h]
    rfl

end Go.Proofs.Ythlodaeodakomaa.Pure
