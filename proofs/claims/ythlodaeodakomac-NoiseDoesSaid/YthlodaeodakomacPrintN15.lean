-- Written by a program of this session's own (a turned copy of the kit's print); Lean checks it.
import Derived.Test.YthlodaeodakomacPrintN0
import Derived.Test.YthlodaeodakomacPrintN14
namespace Go.Proofs.Ythlodaeodakomac.PrintN
open Go.RowKit Go.Proofs.Ythlodaeodakomac Go.Proofs.YthlodaeodakomacW.PrintWords Go.Proofs.YthlodaeodakomacW.PrintLast Go.Proofs.YthlodaeodakomacW.PrintMore
attribute [local go_sem] max2_int min2_int max_two min_two max_three min_three max_four min_four   -- for this text's walks alone
set_option linter.unusedVariables false
set_option linter.unusedSimpArgs false

/-! ### reedpiperef07_Power: function 34 -/
def reedpiperef07_Power.f (k : Nat) (a0 : Int) : Option (Int) := (reedpiperef03_Third.f k (wrap64 (a0 * 68719476736))).bind fun t165 => (some (wrap64 (a0 * t165)))
theorem reedpiperef07_Power.mono : ∀ a0 k, LeO (reedpiperef07_Power.f k a0) (reedpiperef07_Power.f (k + 1) a0) := by
  intro a0 k
  unfold reedpiperef07_Power.f
  repeat' first
      | (with_reducible exact reedpiperef03_Third.mono _ _)
      | (with_reducible exact LeO.refl _)
      | (with_reducible exact LeO.none _)
      | (with_reducible refine LeO.ite ?_ ?_)
      | (with_reducible refine LeO.bind ?_ (fun _ => ?_))
      | exact reedpiperef03_Third.mono _ _
      | exact LeO.none _
      | refine LeO.ite ?_ ?_
      | refine LeO.bind ?_ (fun _ => ?_)
set_option maxHeartbeats 8000000 in
set_option maxRecDepth 100000 in
theorem reedpiperef07_Power.calls (k : Nat) (a0 : Int) (r : Int) (w : World) (h : reedpiperef07_Power.f k a0 = some r) :
    Calls Try.prog 34 #[.int .i64 a0] w fun e w' => e = .returned (.int .i64 r) ∧ Drawn0 w w' := by
  have H : ((reedpiperef03_Third.f k (wrap64 (a0 * 68719476736))).bind fun t165 => (some (wrap64 (a0 * t165)))) = some r := h
  clear h
  replace H := Option.bind_eq_some_iff.mp H
  obtain ⟨t165, A20, H⟩ := H
  replace H : (some (wrap64 (a0 * t165))) = some r := H
  have A2 := Aside0.mk A20
  clear A20
  obtain rfl := Option.some.inj H
  go_enter Try.func34, Try.ntmps34
  go_wp2_with (first | ((with_reducible refine gate_callee (f := 37) rfl ?_); refine goesL_ (some 6) rfl rfl Try.func37 (by kernel_rfl) rfl #[.int .i64 (wrap64 (a0 * 68719476736))] rfl (by (try simp only [List.map_toArray, List.map_cons, List.map_nil]); first | done | rfl | (simp only [List.length_drop, List.length_take]; rfl)) ?_; (with_reducible refine (reedpiperef03_Third.calls k (wrap64 (a0 * 68719476736)) t165 _ A2.out).mono ?_); rintro e w' ⟨rfl, ⟨nd, rfl⟩⟩; refine ⟨_, rfl, ?_⟩))
  go_ret
  exact ⟨by first | rfl | (simp; done) | (simp [*]; done), by repeat (first | exact Drawn0.refl _ | apply Drawn0.step)⟩

end Go.Proofs.Ythlodaeodakomac.PrintN
