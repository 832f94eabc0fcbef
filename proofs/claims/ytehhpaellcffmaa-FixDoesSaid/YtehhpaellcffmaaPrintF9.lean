-- Written by a program of this session's own (a turned copy of the kit's print); Lean checks it.
import Derived.Test.YtehhpaellcffmaaPrintF0
import Derived.Test.YtehhpaellcffmaaPrintF8
namespace Go.Proofs.Ytehhpaellcffmaa.PrintF
open Go.RowKit Go.Proofs.Ytehhpaellcffmaa Go.Proofs.YtehhpaellcffmaaW.PrintWords Go.Proofs.YtehhpaellcffmaaW.PrintLast Go.Proofs.YtehhpaellcffmaaW.PrintMore
attribute [local go_sem] max2_int min2_int max_two min_two max_three min_three max_four min_four   -- for this text's walks alone
set_option linter.unusedVariables false
set_option linter.unusedSimpArgs false

/-! ### reedpiperef03_Round: function 14 -/
def reedpiperef03_Round.f (a0 : Int) (a1 : Int) : Option (Int × Int) := if a0 < (-4611686018427387904) then (some (0, 2)) else (if a0 > 4611686018427387904 then (some (0, 2)) else (if a1 < 0 then (some (0, 2)) else (if a1 > 62 then (some (0, 2)) else ((reedpiperef03_Down.f a0 a1).bind fun t140 => (some (t140, 0))))))
set_option maxHeartbeats 8000000 in
set_option maxRecDepth 100000 in
theorem reedpiperef03_Round.calls (a0 : Int) (a1 : Int) (r1 : Int) (r2 : Int) (w : World) (h : reedpiperef03_Round.f a0 a1 = some (r1, r2)) :
    Calls Try.prog 14 #[.int .i64 a0, .int .i64 a1] w fun e w' => e = .returned (.tuple #[.int .i64 r1, .int .i64 r2]) ∧ Drawn0 w w' := by
  have H : (if a0 < (-4611686018427387904) then (some (0, 2)) else (if a0 > 4611686018427387904 then (some (0, 2)) else (if a1 < 0 then (some (0, 2)) else (if a1 > 62 then (some (0, 2)) else ((reedpiperef03_Down.f a0 a1).bind fun t140 => (some (t140, 0))))))) = some (r1, r2) := h
  clear h
  by_cases c3 : a0 < (-4611686018427387904)
  · rw [if_pos c3] at H
    have c3b0 : decide (a0 < (-4611686018427387904)) = true := decide_eq_true c3
    clear c3
    simp only [Option.some.injEq, Prod.mk.injEq] at H
    obtain ⟨rfl, rfl⟩ := H
    go_enter Try.func14, Try.ntmps14
    go_wp2
    go_ret2
    exact ⟨by first | rfl | (simp; done) | (simp [*]; done), by repeat (first | exact Drawn0.refl _ | apply Drawn0.step)⟩
  · rw [if_neg c3] at H
    have c3b0 : decide (a0 < (-4611686018427387904)) = false := decide_eq_false c3
    clear c3
    by_cases c4 : a0 > 4611686018427387904
    · rw [if_pos c4] at H
      have c4b0 : decide (4611686018427387904 < a0) = true := decide_eq_true c4
      clear c4
      simp only [Option.some.injEq, Prod.mk.injEq] at H
      obtain ⟨rfl, rfl⟩ := H
      go_enter Try.func14, Try.ntmps14
      go_wp2
      go_ret2
      exact ⟨by first | rfl | (simp; done) | (simp [*]; done), by repeat (first | exact Drawn0.refl _ | apply Drawn0.step)⟩
    · rw [if_neg c4] at H
      have c4b0 : decide (4611686018427387904 < a0) = false := decide_eq_false c4
      clear c4
      by_cases c5 : a1 < 0
      · rw [if_pos c5] at H
        have c5b0 : decide (a1 < 0) = true := decide_eq_true c5
        clear c5
        simp only [Option.some.injEq, Prod.mk.injEq] at H
        obtain ⟨rfl, rfl⟩ := H
        go_enter Try.func14, Try.ntmps14
        go_wp2
        go_ret2
        exact ⟨by first | rfl | (simp; done) | (simp [*]; done), by repeat (first | exact Drawn0.refl _ | apply Drawn0.step)⟩
      · rw [if_neg c5] at H
        have c5b0 : decide (a1 < 0) = false := decide_eq_false c5
        clear c5
        by_cases c6 : a1 > 62
        · rw [if_pos c6] at H
          have c6b0 : decide (62 < a1) = true := decide_eq_true c6
          clear c6
          simp only [Option.some.injEq, Prod.mk.injEq] at H
          obtain ⟨rfl, rfl⟩ := H
          go_enter Try.func14, Try.ntmps14
          go_wp2
          go_ret2
          exact ⟨by first | rfl | (simp; done) | (simp [*]; done), by repeat (first | exact Drawn0.refl _ | apply Drawn0.step)⟩
        · rw [if_neg c6] at H
          have c6b0 : decide (62 < a1) = false := decide_eq_false c6
          clear c6
          replace H := Option.bind_eq_some_iff.mp H
          obtain ⟨t140, A70, H⟩ := H
          replace H : (some (t140, 0)) = some (r1, r2) := H
          have A7 := Aside0.mk A70
          clear A70
          simp only [Option.some.injEq, Prod.mk.injEq] at H
          obtain ⟨rfl, rfl⟩ := H
          go_enter Try.func14, Try.ntmps14
          go_wp2_with (first | ((with_reducible refine gate_callee (f := 21) rfl ?_); refine goesL_ (some 22) rfl rfl Try.func21 (by kernel_rfl) rfl #[.int .i64 a0, .int .i64 a1] rfl (by (try simp only [List.map_toArray, List.map_cons, List.map_nil]); first | done | rfl | (simp only [List.length_drop, List.length_take]; rfl)) ?_; (with_reducible refine (reedpiperef03_Down.calls a0 a1 t140 _ A7.out).mono ?_); rintro e w' ⟨rfl, ⟨nd, rfl⟩⟩; refine ⟨_, rfl, ?_⟩))
          go_ret2
          exact ⟨by first | rfl | (simp; done) | (simp [*]; done), by repeat (first | exact Drawn0.refl _ | apply Drawn0.step)⟩

end Go.Proofs.Ytehhpaellcffmaa.PrintF
