-- Written by a program of this session's own (a turned copy of the kit's print); Lean checks it.
import Derived.Test.YthlodaeodakomaaPrintB0
import Derived.Test.YthlodaeodakomaaPrintB13
namespace Go.Proofs.Ythlodaeodakomaa.PrintB
open Go.RowKit Go.Proofs.Ythlodaeodakomaa Go.Proofs.YthlodaeodakomaaW.PrintWords Go.Proofs.YthlodaeodakomaaW.PrintLast Go.Proofs.YthlodaeodakomaaW.PrintMore
attribute [local go_sem] max2_int min2_int max_two min_two max_three min_three max_four min_four   -- for this text's walks alone
set_option linter.unusedVariables false
set_option linter.unusedSimpArgs false

/-! ### reedpiperef06_Wide: function 21 -/
def reedpiperef06_Wide.f (a0 : Int) (a1 : Bool) (a2 : Int) : Option (Int) := if a1 = true then ((reedpiperef06_Lines.f a1).bind fun t182 => (some (mn (wrap64 (4 + (wrap64 (4 * (wrap64 (Int.tdiv (wrap64 (a2 * (wrap64 (3 + (wrap64 (Int.tdiv (wrap64 (11 - a0)) 2)))))) 64)))))) (wrap64 (t182 - a2))))) else ((reedpiperef06_Lines.f a1).bind fun t183 => (some (mn (wrap64 (4 + (wrap64 (4 * (wrap64 (Int.tdiv (wrap64 (a2 * (wrap64 (3 + (wrap64 (Int.tdiv (wrap64 (11 - a0)) 2)))))) 256)))))) (wrap64 (t183 - a2)))))
set_option maxHeartbeats 8000000 in
set_option maxRecDepth 100000 in
theorem reedpiperef06_Wide.calls (a0 : Int) (a1 : Bool) (a2 : Int) (r : Int) (w : World) (h : reedpiperef06_Wide.f a0 a1 a2 = some r) :
    Calls Try.prog 21 #[.int .i64 a0, .bool a1, .int .i64 a2] w fun e w' => e = .returned (.int .i64 r) ∧ Below w.heap.size w w' := by
  have HB := Aside0.mk (Below.refl w.heap.size w)
  have H : (if a1 = true then ((reedpiperef06_Lines.f a1).bind fun t182 => (some (mn (wrap64 (4 + (wrap64 (4 * (wrap64 (Int.tdiv (wrap64 (a2 * (wrap64 (3 + (wrap64 (Int.tdiv (wrap64 (11 - a0)) 2)))))) 64)))))) (wrap64 (t182 - a2))))) else ((reedpiperef06_Lines.f a1).bind fun t183 => (some (mn (wrap64 (4 + (wrap64 (4 * (wrap64 (Int.tdiv (wrap64 (a2 * (wrap64 (3 + (wrap64 (Int.tdiv (wrap64 (11 - a0)) 2)))))) 256)))))) (wrap64 (t183 - a2)))))) = some r := h
  clear h
  by_cases c4 : a1 = true
  · subst c4
    have H1 : ((reedpiperef06_Lines.f true).bind fun t182 => (some (mn (wrap64 (4 + (wrap64 (4 * (wrap64 (Int.tdiv (wrap64 (a2 * (wrap64 (3 + (wrap64 (Int.tdiv (wrap64 (11 - a0)) 2)))))) 64)))))) (wrap64 (t182 - a2))))) = some r := by rw [if_pos rfl] at H; exact H
    clear H
    have H := H1
    clear H1
    replace H := Option.bind_eq_some_iff.mp H
    obtain ⟨t182, A50, H⟩ := H
    replace H : (some (mn (wrap64 (4 + (wrap64 (4 * (wrap64 (Int.tdiv (wrap64 (a2 * (wrap64 (3 + (wrap64 (Int.tdiv (wrap64 (11 - a0)) 2)))))) 64)))))) (wrap64 (t182 - a2)))) = some r := H
    have A5 := Aside0.mk A50
    clear A50
    obtain ⟨ji6, hji6⟩ : ∃ j_ : Int, (mn (wrap64 (4 + (wrap64 (4 * (wrap64 (Int.tdiv (wrap64 (a2 * (wrap64 (3 + (wrap64 (Int.tdiv (wrap64 (11 - a0)) 2)))))) 64)))))) (wrap64 (t182 - a2))) = j_ := ⟨_, rfl⟩
    replace H : (some ji6) = some r := by first | (rw [hji6] at H; exact H) | (simp only [hji6] at H ⊢; exact H)
    (try rw [hji6] at A5)
    have hji6_ : (if (wrap64 (t182 - a2)) < (wrap64 (4 + (wrap64 (4 * (wrap64 (Int.tdiv (wrap64 (a2 * (wrap64 (3 + (wrap64 (Int.tdiv (wrap64 (11 - a0)) 2)))))) 64)))))) then (wrap64 (t182 - a2)) else (wrap64 (4 + (wrap64 (4 * (wrap64 (Int.tdiv (wrap64 (a2 * (wrap64 (3 + (wrap64 (Int.tdiv (wrap64 (11 - a0)) 2)))))) 64))))))) = ji6 := hji6
    obtain rfl := Option.some.inj H
    go_enter Try.func21, Try.ntmps21
    go_wp2_with (first | (go_at_call 20; (with_reducible refine (reedpiperef06_Lines.calls true t182 _ A5.out).mono ?_); rintro e w' ⟨rfl, ⟨nd, rfl⟩⟩; (try first | exact ⟨rfl, _, World.drewN_drewN _ _ _⟩ | exact ⟨rfl, _, Eq.trans (World.drewN_drewN _ _ _) (congrArg (World.drewN _) (Nat.add_assoc _ _ _))⟩)))
    repeat (go_quiet (first | (go_at_call 20; (with_reducible refine (reedpiperef06_Lines.calls true t182 _ A5.out).mono ?_); rintro e w' ⟨rfl, ⟨nd, rfl⟩⟩; (try first | exact ⟨rfl, _, World.drewN_drewN _ _ _⟩ | exact ⟨rfl, _, Eq.trans (World.drewN_drewN _ _ _) (congrArg (World.drewN _) (Nat.add_assoc _ _ _))⟩))); try go_wp2_with (first | (go_at_call 20; (with_reducible refine (reedpiperef06_Lines.calls true t182 _ A5.out).mono ?_); rintro e w' ⟨rfl, ⟨nd, rfl⟩⟩; (try first | exact ⟨rfl, _, World.drewN_drewN _ _ _⟩ | exact ⟨rfl, _, Eq.trans (World.drewN_drewN _ _ _) (congrArg (World.drewN _) (Nat.add_assoc _ _ _))⟩))))
    go_ret
    exact ⟨by first | rfl | (simp [errW_none, errW_some] <;> rfl) | (simp only [← hji6]; first | rfl | (simp [errW_none, errW_some] <;> rfl)) | (simp [*, errW_none, errW_some] <;> rfl), by repeat (first | (with_reducible first | exact HB.out | apply below_alloc | apply pw_below_drewN | apply below_drew1) | exact HB.out)⟩
  · replace c4 := Bool.eq_false_iff.mpr c4
    subst c4
    have H1 : ((reedpiperef06_Lines.f false).bind fun t183 => (some (mn (wrap64 (4 + (wrap64 (4 * (wrap64 (Int.tdiv (wrap64 (a2 * (wrap64 (3 + (wrap64 (Int.tdiv (wrap64 (11 - a0)) 2)))))) 256)))))) (wrap64 (t183 - a2))))) = some r := by rw [if_neg (show ¬ (false = true) by decide)] at H; exact H
    clear H
    have H := H1
    clear H1
    replace H := Option.bind_eq_some_iff.mp H
    obtain ⟨t183, A70, H⟩ := H
    replace H : (some (mn (wrap64 (4 + (wrap64 (4 * (wrap64 (Int.tdiv (wrap64 (a2 * (wrap64 (3 + (wrap64 (Int.tdiv (wrap64 (11 - a0)) 2)))))) 256)))))) (wrap64 (t183 - a2)))) = some r := H
    have A7 := Aside0.mk A70
    clear A70
    obtain ⟨ji8, hji8⟩ : ∃ j_ : Int, (mn (wrap64 (4 + (wrap64 (4 * (wrap64 (Int.tdiv (wrap64 (a2 * (wrap64 (3 + (wrap64 (Int.tdiv (wrap64 (11 - a0)) 2)))))) 256)))))) (wrap64 (t183 - a2))) = j_ := ⟨_, rfl⟩
    replace H : (some ji8) = some r := by first | (rw [hji8] at H; exact H) | (simp only [hji8] at H ⊢; exact H)
    (try rw [hji8] at A7)
    have hji8_ : (if (wrap64 (t183 - a2)) < (wrap64 (4 + (wrap64 (4 * (wrap64 (Int.tdiv (wrap64 (a2 * (wrap64 (3 + (wrap64 (Int.tdiv (wrap64 (11 - a0)) 2)))))) 256)))))) then (wrap64 (t183 - a2)) else (wrap64 (4 + (wrap64 (4 * (wrap64 (Int.tdiv (wrap64 (a2 * (wrap64 (3 + (wrap64 (Int.tdiv (wrap64 (11 - a0)) 2)))))) 256))))))) = ji8 := hji8
    obtain rfl := Option.some.inj H
    go_enter Try.func21, Try.ntmps21
    go_wp2_with (first | (go_at_call 20; (with_reducible refine (reedpiperef06_Lines.calls false t183 _ A7.out).mono ?_); rintro e w' ⟨rfl, ⟨nd, rfl⟩⟩; (try first | exact ⟨rfl, _, World.drewN_drewN _ _ _⟩ | exact ⟨rfl, _, Eq.trans (World.drewN_drewN _ _ _) (congrArg (World.drewN _) (Nat.add_assoc _ _ _))⟩)))
    repeat (go_quiet (first | (go_at_call 20; (with_reducible refine (reedpiperef06_Lines.calls false t183 _ A7.out).mono ?_); rintro e w' ⟨rfl, ⟨nd, rfl⟩⟩; (try first | exact ⟨rfl, _, World.drewN_drewN _ _ _⟩ | exact ⟨rfl, _, Eq.trans (World.drewN_drewN _ _ _) (congrArg (World.drewN _) (Nat.add_assoc _ _ _))⟩))); try go_wp2_with (first | (go_at_call 20; (with_reducible refine (reedpiperef06_Lines.calls false t183 _ A7.out).mono ?_); rintro e w' ⟨rfl, ⟨nd, rfl⟩⟩; (try first | exact ⟨rfl, _, World.drewN_drewN _ _ _⟩ | exact ⟨rfl, _, Eq.trans (World.drewN_drewN _ _ _) (congrArg (World.drewN _) (Nat.add_assoc _ _ _))⟩))))
    go_ret
    exact ⟨by first | rfl | (simp [errW_none, errW_some] <;> rfl) | (simp only [← hji8]; first | rfl | (simp [errW_none, errW_some] <;> rfl)) | (simp [*, errW_none, errW_some] <;> rfl), by repeat (first | (with_reducible first | exact HB.out | apply below_alloc | apply pw_below_drewN | apply below_drew1) | exact HB.out)⟩

end Go.Proofs.Ythlodaeodakomaa.PrintB
