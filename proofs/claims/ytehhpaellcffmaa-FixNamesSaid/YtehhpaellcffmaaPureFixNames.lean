/-
  The error of package fix has its number, and the chapter's examples are so.
-/
import Derived.Test.YtehhpaellcffmaaPrintF7
import Derived.Test.YtehhpaellcffmaaPf
namespace Go.Proofs.Ytehhpaellcffmaa.Pure
open Go.RowKit Go.Proofs.Ytehhpaellcffmaa.PrintF Go.Proofs.YtehhpaellcffmaaW.PrintWords Go.Proofs.YtehhpaellcffmaaW.PrintLast

theorem FixNames : reedpipelaw03_FixNames.Pure := by
  refine ⟨1, ?_⟩
  unfold reedpipelaw03_FixNames.f
  have e1 : fix_Round.f 1 (-5) 1 = some (-2, 0) := round_ok 0 (-5) 1 (by decide) (by decide) (by decide)
  have e2 : fix_Round.f 1 6 2 = some (2, 0) := round_ok 0 6 2 (by decide) (by decide) (by decide)
  have e3 : fix_Round.f 1 7 0 = some (7, 0) := round_ok 0 7 0 (by decide) (by decide) (by decide)
  have c1 : fix_Clip.f 40000 16 = some (32767, 0) := by decide +kernel
  have c2 : fix_Clip.f (-40000) 16 = some (-32768, 0) := by decide +kernel
  have c3 : fix_Clip.f 7 16 = some (7, 0) := by decide +kernel
  have r1 : fix_Cbrt.f 27 = some (3, 0) := by
    have : icb 27 = 3 := icb_eq (by decide) (by decide) (by decide) (by decide)
    unfold fix_Cbrt.f
    rw [this]
    rfl
  have r2 : fix_Sqrt.f (-1) = some (0, 2) := rfl
  rw [alive03 0, e1, e2, e3, c1, c2, c3, r1, r2]
  rfl

end Go.Proofs.Ytehhpaellcffmaa.Pure
