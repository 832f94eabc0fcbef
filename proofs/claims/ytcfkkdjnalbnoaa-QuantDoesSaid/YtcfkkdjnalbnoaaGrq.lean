/-
  The contract of power.Quant: for all arguments.
-/
import Derived.Test.YtcfkkdjnalbnoaaGq
namespace Go.Proofs.Ytcfkkdjnalbnoaa
open Go.RowKit Go.Proofs.YtcfkkdjnalbnoaaW.PrintWords Go.Proofs.YtcfkkdjnalbnoaaW.PrintMore

def power_Quant.f (a0 a1 : Int) : Option (Int × Int) := if -268435455 ≤ a0 ∧ a0 ≤ 268435455 ∧ 0 ≤ a1 ∧ a1 ≤ 255 then some (qn a0 a1, 0) else some (0, 2)

set_option maxRecDepth 100000 in
set_option maxHeartbeats 400000 in
theorem power_Quant.calls (a0 a1 : Int) (r1 : Int) (r2 : Int) (w : World) (h : power_Quant.f a0 a1 = some (r1, r2)) :
    Calls Try.prog 17 #[.int .i64 a0, .int .i64 a1] w fun e w' => e = .returned (.tuple #[.int .i64 r1, .int .i64 r2]) ∧ Below w.heap.size w w' := by
  unfold power_Quant.f at h
  by_cases hc : -268435455 ≤ a0 ∧ a0 ≤ 268435455 ∧ 0 ≤ a1 ∧ a1 ≤ 255
  · rw [if_pos hc] at h
    obtain ⟨rfl, rfl⟩ := Prod.mk.inj (Option.some.inj h)
    exact quant_any a0 a1 hc.1 hc.2.1 hc.2.2.1 hc.2.2.2 w
  · rw [if_neg hc] at h
    obtain ⟨rfl, rfl⟩ := Prod.mk.inj (Option.some.inj h)
    clear h
    by_cases h0 : a0 < -268435455 ∨ 268435455 < a0
    · clear hc
      have H0 := Lib.hid h0
      clear h0
      go_enter Try.func17, Try.ntmps17
      go_wp2_with (go_at_call 29; refine (odd_yes a0 _ H0.out (by omega) (by omega) _).mono ?_; rintro e w' ⟨rfl, rfl⟩)
      go_ret2
      exact ⟨rfl, below_alloc (below_alloc (Below.refl _ _) _) _⟩
    · have h1 : -268435455 ≤ a0 := by omega
      have h2 : a0 ≤ 268435455 := by omega
      clear h0
      by_cases h3 : a1 < 0
      · clear hc
        go_enter Try.func17, Try.ntmps17
        go_wp2_with (go_at_call 29; refine (odd_no a0 _ (by omega) (by omega) (by omega) _).mono ?_; rintro e w' ⟨rfl, rfl⟩)
        go_ret2
        exact ⟨rfl, below_alloc (below_alloc (Below.refl _ _) _) _⟩
      · have h4 : 255 < a1 := by omega
        clear hc
        go_enter Try.func17, Try.ntmps17
        go_wp2_with (go_at_call 29; refine (odd_no a0 _ (by omega) (by omega) (by omega) _).mono ?_; rintro e w' ⟨rfl, rfl⟩)
        go_ret2
        exact ⟨rfl, below_alloc (below_alloc (Below.refl _ _) _) _⟩
end Go.Proofs.Ytcfkkdjnalbnoaa
