-- Written by a program of this session's own (a turned copy of the kit's print); Lean checks it.
import Derived.Test.YtehhpaellcffmaaPrintF0
import Derived.Test.YtehhpaellcffmaaPrintF1
import Derived.Test.YtehhpaellcffmaaPrintF3
namespace Go.Proofs.Ytehhpaellcffmaa.PrintF
open Go.RowKit Go.Proofs.Ytehhpaellcffmaa Go.Proofs.YtehhpaellcffmaaW.PrintWords Go.Proofs.YtehhpaellcffmaaW.PrintLast Go.Proofs.YtehhpaellcffmaaW.PrintMore
attribute [local go_sem] max2_int min2_int max_two min_two max_three min_three max_four min_four   -- for this text's walks alone
set_option linter.unusedVariables false
set_option linter.unusedSimpArgs false

/-! ### reedpipelaw03_FixNear: function 3 -/
def reedpipelaw03_FixNear.j0 : Nat → Int → Int → Int → Bool → Int → Int → Int → Bool → Option (Bool)
  | 0, _, _, _, _, _, _, _, _ => none
  | k + 1, x0, x1, x2, x7, x8, x9, x10, x32 => if x32 = true then (if x7 = true then (if x9 = 0 then (if x2 < 0 then (some true) else (if x2 > 62 then (some true) else (if x0 > 4611686018427387904 then (some true) else (if x0 < (-4611686018427387904) then (some true) else (if x1 > 4611686018427387904 then (some true) else (some (decide (x1 < (-4611686018427387904))))))))) else (if x8 = 0 then (if x9 = 2 then (if x2 < 0 then (some true) else (if x2 > 62 then (some true) else (if x0 > 4611686018427387904 then (some true) else (if x0 < (-4611686018427387904) then (some true) else (if x1 > 4611686018427387904 then (some true) else (some (decide (x1 < (-4611686018427387904))))))))) else (some false)) else (some false))) else (some false)) else (if x2 < 1 then (if x7 = true then (if x2 = 0 then (if x8 = x0 then (if x10 = x1 then (if x0 > x1 then (some true) else (some (decide (x8 ≤ x10)))) else (some false)) else (some false)) else (if x0 > x1 then (some true) else (some (decide (x8 ≤ x10))))) else (some false)) else (if x2 > 60 then (if x7 = true then (if x2 = 0 then (if x8 = x0 then (if x10 = x1 then (if x0 > x1 then (some true) else (some (decide (x8 ≤ x10)))) else (some false)) else (some false)) else (if x0 > x1 then (some true) else (some (decide (x8 ≤ x10))))) else (some false)) else (if 0 ≤ x2 then (if 0 ≤ (wrap64 (x2 - 1)) then (if x7 = true then (if (wrap64 (x0 - (shl .i64 x8 x2))) ≥ (wrap64 (-(shl .i64 1 (wrap64 (x2 - 1))))) then (if (wrap64 (x0 - (shl .i64 x8 x2))) < (shl .i64 1 (wrap64 (x2 - 1))) then (if x0 > x1 then (some true) else (some (decide (x8 ≤ x10)))) else (some false)) else (some false)) else (some false)) else (none)) else (none))))
def reedpipelaw03_FixNear.f (k : Nat) (a0 : Int) (a1 : Int) (a2 : Int) : Option (Bool) := (reedpipelaw03_alive.f k).bind fun t105 => ((fix_Round.f k a0 a2).bind fun bt106 => ((fix_Round.f k a1 a2).bind fun bt108 => (if bt106.2 = 0 then (reedpipelaw03_FixNear.j0 k a0 a1 a2 t105 bt106.1 bt106.2 bt108.1 (bt108.2 != 0)) else (reedpipelaw03_FixNear.j0 k a0 a1 a2 t105 bt106.1 bt106.2 bt108.1 true))))
theorem reedpipelaw03_FixNear.mono_l : ∀ k, (∀ y0 y1 y2 y3 y4 y5 y6 y7, LeO (reedpipelaw03_FixNear.j0 k y0 y1 y2 y3 y4 y5 y6 y7) (reedpipelaw03_FixNear.j0 (k + 1) y0 y1 y2 y3 y4 y5 y6 y7))
  | 0 => fun _ _ _ _ _ _ _ _ r h => by simp [reedpipelaw03_FixNear.j0] at h
  | k + 1 => by
    have ih0 := reedpipelaw03_FixNear.mono_l k
    · intro y0 y1 y2 y3 y4 y5 y6 y7
      unfold reedpipelaw03_FixNear.j0
      repeat' first
      | (with_reducible exact ih0 _ _ _ _ _ _ _ _)
      | (with_reducible exact fix_Round.mono _ _ _)
      | (with_reducible exact reedpipelaw03_alive.mono _)
      | (with_reducible exact LeO.refl _)
      | (with_reducible exact LeO.none _)
      | (with_reducible refine LeO.ite ?_ ?_)
      | (with_reducible refine LeO.bind ?_ (fun _ => ?_))
      | exact ih0 _ _ _ _ _ _ _ _
      | exact fix_Round.mono _ _ _
      | exact reedpipelaw03_alive.mono _
      | exact LeO.none _
      | refine LeO.ite ?_ ?_
      | refine LeO.bind ?_ (fun _ => ?_)
theorem reedpipelaw03_FixNear.mono : ∀ a0 a1 a2 k, LeO (reedpipelaw03_FixNear.f k a0 a1 a2) (reedpipelaw03_FixNear.f (k + 1) a0 a1 a2) := by
  intro a0 a1 a2 k
  have ih0 := reedpipelaw03_FixNear.mono_l k
  unfold reedpipelaw03_FixNear.f
  repeat' first
      | (with_reducible exact ih0 _ _ _ _ _ _ _ _)
      | (with_reducible exact fix_Round.mono _ _ _)
      | (with_reducible exact reedpipelaw03_alive.mono _)
      | (with_reducible exact LeO.refl _)
      | (with_reducible exact LeO.none _)
      | (with_reducible refine LeO.ite ?_ ?_)
      | (with_reducible refine LeO.bind ?_ (fun _ => ?_))
      | exact ih0 _ _ _ _ _ _ _ _
      | exact fix_Round.mono _ _ _
      | exact reedpipelaw03_alive.mono _
      | exact LeO.none _
      | refine LeO.ite ?_ ?_
      | refine LeO.bind ?_ (fun _ => ?_)
set_option maxHeartbeats 8000000 in
set_option maxRecDepth 100000 in
theorem reedpipelaw03_FixNear.calls (k : Nat) (a0 : Int) (a1 : Int) (a2 : Int) (r : Bool) (w : World) (h : reedpipelaw03_FixNear.f k a0 a1 a2 = some r) :
    Calls Try.prog 3 #[.int .i64 a0, .int .i64 a1, .int .i64 a2] w fun e w' => e = .returned (.bool r) ∧ Below w.heap.size w w' := by
  have HB := Aside0.mk (Below.refl w.heap.size w)
  have H : ((reedpipelaw03_alive.f k).bind fun t105 => ((fix_Round.f k a0 a2).bind fun bt106 => ((fix_Round.f k a1 a2).bind fun bt108 => (if bt106.2 = 0 then (reedpipelaw03_FixNear.j0 k a0 a1 a2 t105 bt106.1 bt106.2 bt108.1 (bt108.2 != 0)) else (reedpipelaw03_FixNear.j0 k a0 a1 a2 t105 bt106.1 bt106.2 bt108.1 true))))) = some r := h
  clear h
  replace H := Option.bind_eq_some_iff.mp H
  obtain ⟨t105, A40, H⟩ := H
  replace H : ((fix_Round.f k a0 a2).bind fun bt106 => ((fix_Round.f k a1 a2).bind fun bt108 => (if bt106.2 = 0 then (reedpipelaw03_FixNear.j0 k a0 a1 a2 t105 bt106.1 bt106.2 bt108.1 (bt108.2 != 0)) else (reedpipelaw03_FixNear.j0 k a0 a1 a2 t105 bt106.1 bt106.2 bt108.1 true)))) = some r := H
  have A4 := Aside0.mk A40
  clear A40
  replace H := Option.bind_eq_some_iff.mp H
  obtain ⟨⟨t106, t107⟩, A50, H⟩ := H
  replace H : ((fix_Round.f k a1 a2).bind fun bt108 => (if t107 = 0 then (reedpipelaw03_FixNear.j0 k a0 a1 a2 t105 t106 t107 bt108.1 (bt108.2 != 0)) else (reedpipelaw03_FixNear.j0 k a0 a1 a2 t105 t106 t107 bt108.1 true))) = some r := H
  have A5 := Aside0.mk A50
  clear A50
  replace H := Option.bind_eq_some_iff.mp H
  obtain ⟨⟨t108, t109⟩, A60, H⟩ := H
  replace H : (if t107 = 0 then (reedpipelaw03_FixNear.j0 k a0 a1 a2 t105 t106 t107 t108 (t109 != 0)) else (reedpipelaw03_FixNear.j0 k a0 a1 a2 t105 t106 t107 t108 true)) = some r := H
  have A6 := Aside0.mk A60
  clear A60
  have HC7 := Aside0.mk H
  clear H
  go_enter Try.func3, Try.ntmps3
  go_upto_region 4 with (first | ((with_reducible refine gate_callee (f := 9) rfl ?_); refine goesL_ (some 14) rfl rfl Try.func9 (by kernel_rfl) rfl #[] rfl (by (try simp only [List.map_toArray, List.map_cons, List.map_nil]); first | done | rfl | (simp only [List.length_drop, List.length_take]; rfl)) ?_; (with_reducible refine (reedpipelaw03_alive.calls k  t105 _ A4.out).mono ?_); rintro e w8 ⟨rfl, hb⟩; refine ⟨_, rfl, ?_⟩; have n0_ := Aside0.mk (below_step (by repeat (first | (with_reducible first | exact HB.out | apply below_alloc | apply pw_below_drewN | apply below_drew1) | exact HB.out)) hb); clear HB; have HB := n0_; clear n0_; (try clear hb); (try clear hb2); (try clear hk); (try clear hi)) | ((with_reducible refine gate_callee (f := 10) rfl ?_); refine goesL_ (some 18) rfl rfl Try.func10 (by kernel_rfl) rfl #[.int .i64 a0, .int .i64 a2] rfl (by (try simp only [List.map_toArray, List.map_cons, List.map_nil]); first | done | rfl | (simp only [List.length_drop, List.length_take]; rfl)) ?_; (with_reducible refine (fix_Round.calls k a0 a2 t106 t107 _ A5.out).mono ?_); rintro e w' ⟨rfl, ⟨nd, rfl⟩⟩; refine ⟨_, rfl, ?_⟩) | ((with_reducible refine gate_callee (f := 10) rfl ?_); refine goesL_ (some 24) rfl rfl Try.func10 (by kernel_rfl) rfl #[.int .i64 a1, .int .i64 a2] rfl (by (try simp only [List.map_toArray, List.map_cons, List.map_nil]); first | done | rfl | (simp only [List.length_drop, List.length_take]; rfl)) ?_; (with_reducible refine (fix_Round.calls k a1 a2 t108 t109 _ A6.out).mono ?_); rintro e w' ⟨rfl, ⟨nd, rfl⟩⟩; refine ⟨_, rfl, ?_⟩))
  (try simp only [Act.put, List.setIfInBounds_toArray, List.set_cons_zero, List.set_cons_succ])
  go_cut [32] (fun v32 wc => ∃ (kq : Nat) (x32_6 : Bool), v32 = .bool x32_6 ∧ Aside0 (reedpipelaw03_FixNear.j0 kq a0 a1 a2 t105 t106 t107 t108 x32_6 = some r) ∧ Aside0 (kq ≤ k) ∧ Aside0 (Below w.heap.size w wc))
  case first =>
    have H := HC7.out
    clear HC7
    by_cases c9 : t107 = 0
    · rw [if_pos c9] at H
      have c9b0 : (t107 == 0) = true := beq_iff_eq.mpr c9
      have c9b1 : (t107 != 0) = false := bne_eq_false_iff_eq.mpr c9
      clear c9
      (first | rw [c9b0] | (simp only [i64_w, i32_w]; rw [c9b0]) | skip)
      have H' := Aside0.mk H
      clear H
      go_wp2
      go_meet
      case rel => exact ⟨_, ((t109 != 0)), (by first | rfl | (simp; done) | (simp [*]; done)), H', ⟨by first | omega | exact Nat.le_refl _⟩, ⟨by repeat (first | (with_reducible first | exact HB.out | apply below_alloc | apply pw_below_drewN | apply below_drew1) | exact HB.out)⟩⟩
    · rw [if_neg c9] at H
      have c9b0 : (t107 == 0) = false := beq_eq_false_iff_ne.mpr c9
      have c9b1 : (t107 != 0) = true := bne_iff_ne.mpr c9
      (first | rw [c9b0] | (simp only [i64_w, i32_w]; rw [c9b0]) | skip)
      have H' := Aside0.mk H
      clear H
      go_wp2
      go_meet
      case rel => exact ⟨_, (true), (by first | rfl | (simp; done) | (simp [*]; done)), H', ⟨by first | omega | exact Nat.le_refl _⟩, ⟨by repeat (first | (with_reducible first | exact HB.out | apply below_alloc | apply pw_below_drewN | apply below_drew1) | exact HB.out)⟩⟩
  case rest =>
    clear HC7
    try clear c1
    try clear p2
    try clear c3
    try clear c9
    try clear c9b0
    try clear c9b1
    obtain ⟨kq, x32_6, rfl, HA, HJ6, HB⟩ := hcut
    cases kq with
    | zero => exact absurd HA.out (by simp [reedpipelaw03_FixNear.j0])
    | succ kj6 =>
      have H := HA.out
      clear HA
      simp only [reedpipelaw03_FixNear.j0] at H
      by_cases c10 : x32_6 = true
      · subst c10
        have H1 : (if t105 = true then (if t107 = 0 then (if a2 < 0 then (some true) else (if a2 > 62 then (some true) else (if a0 > 4611686018427387904 then (some true) else (if a0 < (-4611686018427387904) then (some true) else (if a1 > 4611686018427387904 then (some true) else (some (decide (a1 < (-4611686018427387904))))))))) else (if t106 = 0 then (if t107 = 2 then (if a2 < 0 then (some true) else (if a2 > 62 then (some true) else (if a0 > 4611686018427387904 then (some true) else (if a0 < (-4611686018427387904) then (some true) else (if a1 > 4611686018427387904 then (some true) else (some (decide (a1 < (-4611686018427387904))))))))) else (some false)) else (some false))) else (some false)) = some r := by rw [if_pos rfl] at H; exact H
        clear H
        have H := H1
        clear H1
        by_cases c11 : t105 = true
        · subst c11
          have H1 : (if t107 = 0 then (if a2 < 0 then (some true) else (if a2 > 62 then (some true) else (if a0 > 4611686018427387904 then (some true) else (if a0 < (-4611686018427387904) then (some true) else (if a1 > 4611686018427387904 then (some true) else (some (decide (a1 < (-4611686018427387904))))))))) else (if t106 = 0 then (if t107 = 2 then (if a2 < 0 then (some true) else (if a2 > 62 then (some true) else (if a0 > 4611686018427387904 then (some true) else (if a0 < (-4611686018427387904) then (some true) else (if a1 > 4611686018427387904 then (some true) else (some (decide (a1 < (-4611686018427387904))))))))) else (some false)) else (some false))) = some r := by rw [if_pos rfl] at H; exact H
          clear H
          have H := H1
          clear H1
          by_cases c12 : t107 = 0
          · rw [if_pos c12] at H
            have c12b0 : (t107 == 0) = true := beq_iff_eq.mpr c12
            have c12b1 : (t107 != 0) = false := bne_eq_false_iff_eq.mpr c12
            clear c12
            by_cases c13 : a2 < 0
            · rw [if_pos c13] at H
              have c13b0 : decide (a2 < 0) = true := decide_eq_true c13
              clear c13
              obtain rfl := Option.some.inj H
              go_wp2
              go_ret
              exact ⟨by first | rfl | (simp [errW_none, errW_some] <;> rfl) | (simp [*, errW_none, errW_some] <;> rfl), by repeat (first | (with_reducible first | exact HB.out | apply below_alloc | apply pw_below_drewN | apply below_drew1) | exact HB.out)⟩
            · rw [if_neg c13] at H
              have c13b0 : decide (a2 < 0) = false := decide_eq_false c13
              clear c13
              by_cases c14 : a2 > 62
              · rw [if_pos c14] at H
                have c14b0 : decide (62 < a2) = true := decide_eq_true c14
                clear c14
                obtain rfl := Option.some.inj H
                go_wp2
                go_ret
                exact ⟨by first | rfl | (simp [errW_none, errW_some] <;> rfl) | (simp [*, errW_none, errW_some] <;> rfl), by repeat (first | (with_reducible first | exact HB.out | apply below_alloc | apply pw_below_drewN | apply below_drew1) | exact HB.out)⟩
              · rw [if_neg c14] at H
                have c14b0 : decide (62 < a2) = false := decide_eq_false c14
                clear c14
                by_cases c15 : a0 > 4611686018427387904
                · rw [if_pos c15] at H
                  have c15b0 : decide (4611686018427387904 < a0) = true := decide_eq_true c15
                  clear c15
                  obtain rfl := Option.some.inj H
                  go_wp2
                  go_ret
                  exact ⟨by first | rfl | (simp [errW_none, errW_some] <;> rfl) | (simp [*, errW_none, errW_some] <;> rfl), by repeat (first | (with_reducible first | exact HB.out | apply below_alloc | apply pw_below_drewN | apply below_drew1) | exact HB.out)⟩
                · rw [if_neg c15] at H
                  have c15b0 : decide (4611686018427387904 < a0) = false := decide_eq_false c15
                  clear c15
                  by_cases c16 : a0 < (-4611686018427387904)
                  · rw [if_pos c16] at H
                    have c16b0 : decide (a0 < (-4611686018427387904)) = true := decide_eq_true c16
                    clear c16
                    obtain rfl := Option.some.inj H
                    go_wp2
                    go_ret
                    exact ⟨by first | rfl | (simp [errW_none, errW_some] <;> rfl) | (simp [*, errW_none, errW_some] <;> rfl), by repeat (first | (with_reducible first | exact HB.out | apply below_alloc | apply pw_below_drewN | apply below_drew1) | exact HB.out)⟩
                  · rw [if_neg c16] at H
                    have c16b0 : decide (a0 < (-4611686018427387904)) = false := decide_eq_false c16
                    clear c16
                    by_cases c17 : a1 > 4611686018427387904
                    · rw [if_pos c17] at H
                      have c17b0 : decide (4611686018427387904 < a1) = true := decide_eq_true c17
                      clear c17
                      obtain rfl := Option.some.inj H
                      go_wp2
                      go_ret
                      exact ⟨by first | rfl | (simp [errW_none, errW_some] <;> rfl) | (simp [*, errW_none, errW_some] <;> rfl), by repeat (first | (with_reducible first | exact HB.out | apply below_alloc | apply pw_below_drewN | apply below_drew1) | exact HB.out)⟩
                    · rw [if_neg c17] at H
                      have c17b0 : decide (4611686018427387904 < a1) = false := decide_eq_false c17
                      clear c17
                      obtain rfl := Option.some.inj H
                      go_wp2
                      go_ret
                      exact ⟨by first | rfl | (simp [errW_none, errW_some] <;> rfl) | (simp [*, errW_none, errW_some] <;> rfl), by repeat (first | (with_reducible first | exact HB.out | apply below_alloc | apply pw_below_drewN | apply below_drew1) | exact HB.out)⟩
          · rw [if_neg c12] at H
            have c12b0 : (t107 == 0) = false := beq_eq_false_iff_ne.mpr c12
            have c12b1 : (t107 != 0) = true := bne_iff_ne.mpr c12
            by_cases c18 : t106 = 0
            · rw [if_pos c18] at H
              have c18b0 : (t106 == 0) = true := beq_iff_eq.mpr c18
              have c18b1 : (t106 != 0) = false := bne_eq_false_iff_eq.mpr c18
              clear c18
              by_cases c19 : t107 = 2
              · rw [if_pos c19] at H
                have c19b0 : (t107 == 2) = true := beq_iff_eq.mpr c19
                have c19b1 : (t107 != 2) = false := bne_eq_false_iff_eq.mpr c19
                clear c19
                by_cases c20 : a2 < 0
                · rw [if_pos c20] at H
                  have c20b0 : decide (a2 < 0) = true := decide_eq_true c20
                  clear c20
                  obtain rfl := Option.some.inj H
                  go_wp2
                  go_ret
                  exact ⟨by first | rfl | (simp [errW_none, errW_some] <;> rfl) | (simp [*, errW_none, errW_some] <;> rfl), by repeat (first | (with_reducible first | exact HB.out | apply below_alloc | apply pw_below_drewN | apply below_drew1) | exact HB.out)⟩
                · rw [if_neg c20] at H
                  have c20b0 : decide (a2 < 0) = false := decide_eq_false c20
                  clear c20
                  by_cases c21 : a2 > 62
                  · rw [if_pos c21] at H
                    have c21b0 : decide (62 < a2) = true := decide_eq_true c21
                    clear c21
                    obtain rfl := Option.some.inj H
                    go_wp2
                    go_ret
                    exact ⟨by first | rfl | (simp [errW_none, errW_some] <;> rfl) | (simp [*, errW_none, errW_some] <;> rfl), by repeat (first | (with_reducible first | exact HB.out | apply below_alloc | apply pw_below_drewN | apply below_drew1) | exact HB.out)⟩
                  · rw [if_neg c21] at H
                    have c21b0 : decide (62 < a2) = false := decide_eq_false c21
                    clear c21
                    by_cases c22 : a0 > 4611686018427387904
                    · rw [if_pos c22] at H
                      have c22b0 : decide (4611686018427387904 < a0) = true := decide_eq_true c22
                      clear c22
                      obtain rfl := Option.some.inj H
                      go_wp2
                      go_ret
                      exact ⟨by first | rfl | (simp [errW_none, errW_some] <;> rfl) | (simp [*, errW_none, errW_some] <;> rfl), by repeat (first | (with_reducible first | exact HB.out | apply below_alloc | apply pw_below_drewN | apply below_drew1) | exact HB.out)⟩
                    · rw [if_neg c22] at H
                      have c22b0 : decide (4611686018427387904 < a0) = false := decide_eq_false c22
                      clear c22
                      by_cases c23 : a0 < (-4611686018427387904)
                      · rw [if_pos c23] at H
                        have c23b0 : decide (a0 < (-4611686018427387904)) = true := decide_eq_true c23
                        clear c23
                        obtain rfl := Option.some.inj H
                        go_wp2
                        go_ret
                        exact ⟨by first | rfl | (simp [errW_none, errW_some] <;> rfl) | (simp [*, errW_none, errW_some] <;> rfl), by repeat (first | (with_reducible first | exact HB.out | apply below_alloc | apply pw_below_drewN | apply below_drew1) | exact HB.out)⟩
                      · rw [if_neg c23] at H
                        have c23b0 : decide (a0 < (-4611686018427387904)) = false := decide_eq_false c23
                        clear c23
                        by_cases c24 : a1 > 4611686018427387904
                        · rw [if_pos c24] at H
                          have c24b0 : decide (4611686018427387904 < a1) = true := decide_eq_true c24
                          clear c24
                          obtain rfl := Option.some.inj H
                          go_wp2
                          go_ret
                          exact ⟨by first | rfl | (simp [errW_none, errW_some] <;> rfl) | (simp [*, errW_none, errW_some] <;> rfl), by repeat (first | (with_reducible first | exact HB.out | apply below_alloc | apply pw_below_drewN | apply below_drew1) | exact HB.out)⟩
                        · rw [if_neg c24] at H
                          have c24b0 : decide (4611686018427387904 < a1) = false := decide_eq_false c24
                          clear c24
                          obtain rfl := Option.some.inj H
                          go_wp2
                          go_ret
                          exact ⟨by first | rfl | (simp [errW_none, errW_some] <;> rfl) | (simp [*, errW_none, errW_some] <;> rfl), by repeat (first | (with_reducible first | exact HB.out | apply below_alloc | apply pw_below_drewN | apply below_drew1) | exact HB.out)⟩
              · rw [if_neg c19] at H
                have c19b0 : (t107 == 2) = false := beq_eq_false_iff_ne.mpr c19
                have c19b1 : (t107 != 2) = true := bne_iff_ne.mpr c19
                obtain rfl := Option.some.inj H
                go_wp2
                go_ret
                exact ⟨by first | rfl | (simp [errW_none, errW_some] <;> rfl) | (simp [*, errW_none, errW_some] <;> rfl), by repeat (first | (with_reducible first | exact HB.out | apply below_alloc | apply pw_below_drewN | apply below_drew1) | exact HB.out)⟩
            · rw [if_neg c18] at H
              have c18b0 : (t106 == 0) = false := beq_eq_false_iff_ne.mpr c18
              have c18b1 : (t106 != 0) = true := bne_iff_ne.mpr c18
              obtain rfl := Option.some.inj H
              go_wp2
              go_ret
              exact ⟨by first | rfl | (simp [errW_none, errW_some] <;> rfl) | (simp [*, errW_none, errW_some] <;> rfl), by repeat (first | (with_reducible first | exact HB.out | apply below_alloc | apply pw_below_drewN | apply below_drew1) | exact HB.out)⟩
        · replace c11 := Bool.eq_false_iff.mpr c11
          subst c11
          have H1 : (some false) = some r := by rw [if_neg (show ¬ (false = true) by decide)] at H; exact H
          clear H
          have H := H1
          clear H1
          obtain rfl := Option.some.inj H
          go_wp2
          go_ret
          exact ⟨by first | rfl | (simp [errW_none, errW_some] <;> rfl) | (simp [*, errW_none, errW_some] <;> rfl), by repeat (first | (with_reducible first | exact HB.out | apply below_alloc | apply pw_below_drewN | apply below_drew1) | exact HB.out)⟩
      · replace c10 := Bool.eq_false_iff.mpr c10
        subst c10
        have H1 : (if a2 < 1 then (if t105 = true then (if a2 = 0 then (if t106 = a0 then (if t108 = a1 then (if a0 > a1 then (some true) else (some (decide (t106 ≤ t108)))) else (some false)) else (some false)) else (if a0 > a1 then (some true) else (some (decide (t106 ≤ t108))))) else (some false)) else (if a2 > 60 then (if t105 = true then (if a2 = 0 then (if t106 = a0 then (if t108 = a1 then (if a0 > a1 then (some true) else (some (decide (t106 ≤ t108)))) else (some false)) else (some false)) else (if a0 > a1 then (some true) else (some (decide (t106 ≤ t108))))) else (some false)) else (if 0 ≤ a2 then (if 0 ≤ (wrap64 (a2 - 1)) then (if t105 = true then (if (wrap64 (a0 - (shl .i64 t106 a2))) ≥ (wrap64 (-(shl .i64 1 (wrap64 (a2 - 1))))) then (if (wrap64 (a0 - (shl .i64 t106 a2))) < (shl .i64 1 (wrap64 (a2 - 1))) then (if a0 > a1 then (some true) else (some (decide (t106 ≤ t108)))) else (some false)) else (some false)) else (some false)) else (none)) else (none)))) = some r := by rw [if_neg (show ¬ (false = true) by decide)] at H; exact H
        clear H
        have H := H1
        clear H1
        by_cases c25 : a2 < 1
        · rw [if_pos c25] at H
          have c25b0 : decide (a2 < 1) = true := decide_eq_true c25
          clear c25
          by_cases c26 : t105 = true
          · subst c26
            have H1 : (if a2 = 0 then (if t106 = a0 then (if t108 = a1 then (if a0 > a1 then (some true) else (some (decide (t106 ≤ t108)))) else (some false)) else (some false)) else (if a0 > a1 then (some true) else (some (decide (t106 ≤ t108))))) = some r := by rw [if_pos rfl] at H; exact H
            clear H
            have H := H1
            clear H1
            by_cases c27 : a2 = 0
            · rw [if_pos c27] at H
              have c27b0 : (a2 == 0) = true := beq_iff_eq.mpr c27
              have c27b1 : (a2 != 0) = false := bne_eq_false_iff_eq.mpr c27
              clear c27
              by_cases c28 : t106 = a0
              · rw [if_pos c28] at H
                have c28b0 : (t106 == a0) = true := beq_iff_eq.mpr c28
                have c28b1 : (t106 != a0) = false := bne_eq_false_iff_eq.mpr c28
                clear c28
                by_cases c29 : t108 = a1
                · rw [if_pos c29] at H
                  have c29b0 : (t108 == a1) = true := beq_iff_eq.mpr c29
                  have c29b1 : (t108 != a1) = false := bne_eq_false_iff_eq.mpr c29
                  clear c29
                  by_cases c30 : a0 > a1
                  · rw [if_pos c30] at H
                    have c30b0 : decide (a1 < a0) = true := decide_eq_true c30
                    clear c30
                    obtain rfl := Option.some.inj H
                    go_wp2
                    go_ret
                    exact ⟨by first | rfl | (simp [errW_none, errW_some] <;> rfl) | (simp [*, errW_none, errW_some] <;> rfl), by repeat (first | (with_reducible first | exact HB.out | apply below_alloc | apply pw_below_drewN | apply below_drew1) | exact HB.out)⟩
                  · rw [if_neg c30] at H
                    have c30b0 : decide (a1 < a0) = false := decide_eq_false c30
                    clear c30
                    obtain rfl := Option.some.inj H
                    go_wp2
                    go_ret
                    exact ⟨by first | rfl | (simp [errW_none, errW_some] <;> rfl) | (simp [*, errW_none, errW_some] <;> rfl), by repeat (first | (with_reducible first | exact HB.out | apply below_alloc | apply pw_below_drewN | apply below_drew1) | exact HB.out)⟩
                · rw [if_neg c29] at H
                  have c29b0 : (t108 == a1) = false := beq_eq_false_iff_ne.mpr c29
                  have c29b1 : (t108 != a1) = true := bne_iff_ne.mpr c29
                  obtain rfl := Option.some.inj H
                  go_wp2
                  go_ret
                  exact ⟨by first | rfl | (simp [errW_none, errW_some] <;> rfl) | (simp [*, errW_none, errW_some] <;> rfl), by repeat (first | (with_reducible first | exact HB.out | apply below_alloc | apply pw_below_drewN | apply below_drew1) | exact HB.out)⟩
              · rw [if_neg c28] at H
                have c28b0 : (t106 == a0) = false := beq_eq_false_iff_ne.mpr c28
                have c28b1 : (t106 != a0) = true := bne_iff_ne.mpr c28
                obtain rfl := Option.some.inj H
                go_wp2
                go_ret
                exact ⟨by first | rfl | (simp [errW_none, errW_some] <;> rfl) | (simp [*, errW_none, errW_some] <;> rfl), by repeat (first | (with_reducible first | exact HB.out | apply below_alloc | apply pw_below_drewN | apply below_drew1) | exact HB.out)⟩
            · rw [if_neg c27] at H
              have c27b0 : (a2 == 0) = false := beq_eq_false_iff_ne.mpr c27
              have c27b1 : (a2 != 0) = true := bne_iff_ne.mpr c27
              by_cases c31 : a0 > a1
              · rw [if_pos c31] at H
                have c31b0 : decide (a1 < a0) = true := decide_eq_true c31
                clear c31
                obtain rfl := Option.some.inj H
                go_wp2
                go_ret
                exact ⟨by first | rfl | (simp [errW_none, errW_some] <;> rfl) | (simp [*, errW_none, errW_some] <;> rfl), by repeat (first | (with_reducible first | exact HB.out | apply below_alloc | apply pw_below_drewN | apply below_drew1) | exact HB.out)⟩
              · rw [if_neg c31] at H
                have c31b0 : decide (a1 < a0) = false := decide_eq_false c31
                clear c31
                obtain rfl := Option.some.inj H
                go_wp2
                go_ret
                exact ⟨by first | rfl | (simp [errW_none, errW_some] <;> rfl) | (simp [*, errW_none, errW_some] <;> rfl), by repeat (first | (with_reducible first | exact HB.out | apply below_alloc | apply pw_below_drewN | apply below_drew1) | exact HB.out)⟩
          · replace c26 := Bool.eq_false_iff.mpr c26
            subst c26
            have H1 : (some false) = some r := by rw [if_neg (show ¬ (false = true) by decide)] at H; exact H
            clear H
            have H := H1
            clear H1
            obtain rfl := Option.some.inj H
            go_wp2
            go_ret
            exact ⟨by first | rfl | (simp [errW_none, errW_some] <;> rfl) | (simp [*, errW_none, errW_some] <;> rfl), by repeat (first | (with_reducible first | exact HB.out | apply below_alloc | apply pw_below_drewN | apply below_drew1) | exact HB.out)⟩
        · rw [if_neg c25] at H
          have c25b0 : decide (a2 < 1) = false := decide_eq_false c25
          clear c25
          by_cases c32 : a2 > 60
          · rw [if_pos c32] at H
            have c32b0 : decide (60 < a2) = true := decide_eq_true c32
            clear c32
            by_cases c33 : t105 = true
            · subst c33
              have H1 : (if a2 = 0 then (if t106 = a0 then (if t108 = a1 then (if a0 > a1 then (some true) else (some (decide (t106 ≤ t108)))) else (some false)) else (some false)) else (if a0 > a1 then (some true) else (some (decide (t106 ≤ t108))))) = some r := by rw [if_pos rfl] at H; exact H
              clear H
              have H := H1
              clear H1
              by_cases c34 : a2 = 0
              · rw [if_pos c34] at H
                have c34b0 : (a2 == 0) = true := beq_iff_eq.mpr c34
                have c34b1 : (a2 != 0) = false := bne_eq_false_iff_eq.mpr c34
                clear c34
                by_cases c35 : t106 = a0
                · rw [if_pos c35] at H
                  have c35b0 : (t106 == a0) = true := beq_iff_eq.mpr c35
                  have c35b1 : (t106 != a0) = false := bne_eq_false_iff_eq.mpr c35
                  clear c35
                  by_cases c36 : t108 = a1
                  · rw [if_pos c36] at H
                    have c36b0 : (t108 == a1) = true := beq_iff_eq.mpr c36
                    have c36b1 : (t108 != a1) = false := bne_eq_false_iff_eq.mpr c36
                    clear c36
                    by_cases c37 : a0 > a1
                    · rw [if_pos c37] at H
                      have c37b0 : decide (a1 < a0) = true := decide_eq_true c37
                      clear c37
                      obtain rfl := Option.some.inj H
                      go_wp2
                      go_ret
                      exact ⟨by first | rfl | (simp [errW_none, errW_some] <;> rfl) | (simp [*, errW_none, errW_some] <;> rfl), by repeat (first | (with_reducible first | exact HB.out | apply below_alloc | apply pw_below_drewN | apply below_drew1) | exact HB.out)⟩
                    · rw [if_neg c37] at H
                      have c37b0 : decide (a1 < a0) = false := decide_eq_false c37
                      clear c37
                      obtain rfl := Option.some.inj H
                      go_wp2
                      go_ret
                      exact ⟨by first | rfl | (simp [errW_none, errW_some] <;> rfl) | (simp [*, errW_none, errW_some] <;> rfl), by repeat (first | (with_reducible first | exact HB.out | apply below_alloc | apply pw_below_drewN | apply below_drew1) | exact HB.out)⟩
                  · rw [if_neg c36] at H
                    have c36b0 : (t108 == a1) = false := beq_eq_false_iff_ne.mpr c36
                    have c36b1 : (t108 != a1) = true := bne_iff_ne.mpr c36
                    obtain rfl := Option.some.inj H
                    go_wp2
                    go_ret
                    exact ⟨by first | rfl | (simp [errW_none, errW_some] <;> rfl) | (simp [*, errW_none, errW_some] <;> rfl), by repeat (first | (with_reducible first | exact HB.out | apply below_alloc | apply pw_below_drewN | apply below_drew1) | exact HB.out)⟩
                · rw [if_neg c35] at H
                  have c35b0 : (t106 == a0) = false := beq_eq_false_iff_ne.mpr c35
                  have c35b1 : (t106 != a0) = true := bne_iff_ne.mpr c35
                  obtain rfl := Option.some.inj H
                  go_wp2
                  go_ret
                  exact ⟨by first | rfl | (simp [errW_none, errW_some] <;> rfl) | (simp [*, errW_none, errW_some] <;> rfl), by repeat (first | (with_reducible first | exact HB.out | apply below_alloc | apply pw_below_drewN | apply below_drew1) | exact HB.out)⟩
              · rw [if_neg c34] at H
                have c34b0 : (a2 == 0) = false := beq_eq_false_iff_ne.mpr c34
                have c34b1 : (a2 != 0) = true := bne_iff_ne.mpr c34
                by_cases c38 : a0 > a1
                · rw [if_pos c38] at H
                  have c38b0 : decide (a1 < a0) = true := decide_eq_true c38
                  clear c38
                  obtain rfl := Option.some.inj H
                  go_wp2
                  go_ret
                  exact ⟨by first | rfl | (simp [errW_none, errW_some] <;> rfl) | (simp [*, errW_none, errW_some] <;> rfl), by repeat (first | (with_reducible first | exact HB.out | apply below_alloc | apply pw_below_drewN | apply below_drew1) | exact HB.out)⟩
                · rw [if_neg c38] at H
                  have c38b0 : decide (a1 < a0) = false := decide_eq_false c38
                  clear c38
                  obtain rfl := Option.some.inj H
                  go_wp2
                  go_ret
                  exact ⟨by first | rfl | (simp [errW_none, errW_some] <;> rfl) | (simp [*, errW_none, errW_some] <;> rfl), by repeat (first | (with_reducible first | exact HB.out | apply below_alloc | apply pw_below_drewN | apply below_drew1) | exact HB.out)⟩
            · replace c33 := Bool.eq_false_iff.mpr c33
              subst c33
              have H1 : (some false) = some r := by rw [if_neg (show ¬ (false = true) by decide)] at H; exact H
              clear H
              have H := H1
              clear H1
              obtain rfl := Option.some.inj H
              go_wp2
              go_ret
              exact ⟨by first | rfl | (simp [errW_none, errW_some] <;> rfl) | (simp [*, errW_none, errW_some] <;> rfl), by repeat (first | (with_reducible first | exact HB.out | apply below_alloc | apply pw_below_drewN | apply below_drew1) | exact HB.out)⟩
          · rw [if_neg c32] at H
            have c32b0 : decide (60 < a2) = false := decide_eq_false c32
            clear c32
            by_cases c39 : 0 ≤ a2
            · rw [if_pos c39] at H
              have c39b0 := eq_true c39
              have c39b1 : decide (0 ≤ a2) = true := decide_eq_true c39
              clear c39
              obtain ⟨ji40, hji40⟩ : ∃ j_ : Int, (shl .i64 t106 a2) = j_ := ⟨_, rfl⟩
              replace H : (if 0 ≤ (wrap64 (a2 - 1)) then (if t105 = true then (if (wrap64 (a0 - (ji40))) ≥ (wrap64 (-(shl .i64 1 (wrap64 (a2 - 1))))) then (if (wrap64 (a0 - (ji40))) < (shl .i64 1 (wrap64 (a2 - 1))) then (if a0 > a1 then (some true) else (some (decide (t106 ≤ t108)))) else (some false)) else (some false)) else (some false)) else (none)) = some r := by first | (rw [hji40] at H; exact H) | (simp only [hji40] at H ⊢; exact H)
              have hji40_ : (IntKind.i64.wrap (t106 * 2 ^ min a2.toNat 64)) = ji40 := hji40
              have hji40z : a2 ≤ 64 → (IntKind.i64.wrap (t106 * 2 ^ a2.toNat)) = ji40 := shl_small hji40
              have hji40y : (wrap64 (t106 * 2 ^ min a2.toNat 64)) = ji40 := (i64_w _).symm.trans hji40_
              have hji40x : a2 ≤ 64 → (wrap64 (t106 * 2 ^ a2.toNat)) = ji40 := fun h_ => (i64_w _).symm.trans (hji40z h_)
              obtain ⟨ji41, hji41⟩ : ∃ j_ : Int, (wrap64 (a2 - 1)) = j_ := ⟨_, rfl⟩
              replace H : (if 0 ≤ (ji41) then (if t105 = true then (if (wrap64 (a0 - (ji40))) ≥ (wrap64 (-(shl .i64 1 (ji41)))) then (if (wrap64 (a0 - (ji40))) < (shl .i64 1 (ji41)) then (if a0 > a1 then (some true) else (some (decide (t106 ≤ t108)))) else (some false)) else (some false)) else (some false)) else (none)) = some r := by first | (rw [hji41] at H; exact H) | (simp only [hji41] at H ⊢; exact H)
              have hji41w : (IntKind.i64.wrap (a2 - 1)) = ji41 := (i64_w _).trans hji41
              by_cases c42 : 0 ≤ (ji41)
              · rw [if_pos c42] at H
                have c42b0 := eq_true c42
                have c42b1 : decide (0 ≤ (ji41)) = true := decide_eq_true c42
                clear c42
                obtain ⟨ji43, hji43⟩ : ∃ j_ : Int, (shl .i64 1 (ji41)) = j_ := ⟨_, rfl⟩
                replace H : (if t105 = true then (if (wrap64 (a0 - (ji40))) ≥ (wrap64 (-(ji43))) then (if (wrap64 (a0 - (ji40))) < (ji43) then (if a0 > a1 then (some true) else (some (decide (t106 ≤ t108)))) else (some false)) else (some false)) else (some false)) = some r := by first | (rw [hji43] at H; exact H) | (simp only [hji43] at H ⊢; exact H)
                have hji43_ : (IntKind.i64.wrap (1 * 2 ^ min (ji41).toNat 64)) = ji43 := hji43
                have hji43z : (ji41) ≤ 64 → (IntKind.i64.wrap (1 * 2 ^ (ji41).toNat)) = ji43 := shl_small hji43
                have hji43u : (IntKind.i64.wrap (2 ^ min (ji41).toNat 64)) = ji43 := by have h_ := hji43_; rw [Int.one_mul] at h_; exact h_
                have hji43v : (ji41) ≤ 64 → (IntKind.i64.wrap (2 ^ (ji41).toNat)) = ji43 := fun hle_ => by have h_ := hji43z hle_; rw [Int.one_mul] at h_; exact h_
                have hji43y : (wrap64 (1 * 2 ^ min (ji41).toNat 64)) = ji43 := (i64_w _).symm.trans hji43_
                have hji43x : (ji41) ≤ 64 → (wrap64 (1 * 2 ^ (ji41).toNat)) = ji43 := fun h_ => (i64_w _).symm.trans (hji43z h_)
                by_cases c44 : t105 = true
                · subst c44
                  have H1 : (if (wrap64 (a0 - (ji40))) ≥ (wrap64 (-(ji43))) then (if (wrap64 (a0 - (ji40))) < (ji43) then (if a0 > a1 then (some true) else (some (decide (t106 ≤ t108)))) else (some false)) else (some false)) = some r := by rw [if_pos rfl] at H; exact H
                  clear H
                  have H := H1
                  clear H1
                  by_cases c45 : (wrap64 (a0 - (ji40))) ≥ (wrap64 (-(ji43)))
                  · rw [if_pos c45] at H
                    have c45b0 : decide ((wrap64 (-(ji43))) ≤ (wrap64 (a0 - (ji40)))) = true := decide_eq_true c45
                    clear c45
                    by_cases c46 : (wrap64 (a0 - (ji40))) < (ji43)
                    · rw [if_pos c46] at H
                      have c46b0 : decide ((wrap64 (a0 - (ji40))) < (ji43)) = true := decide_eq_true c46
                      clear c46
                      by_cases c47 : a0 > a1
                      · rw [if_pos c47] at H
                        have c47b0 : decide (a1 < a0) = true := decide_eq_true c47
                        clear c47
                        obtain rfl := Option.some.inj H
                        go_wp2
                        go_ret
                        exact ⟨by first | rfl | (simp [errW_none, errW_some] <;> rfl) | (simp only [← hji40, ← hji41, ← hji43]; first | rfl | (simp [errW_none, errW_some] <;> rfl)) | (simp [*, errW_none, errW_some] <;> rfl), by repeat (first | (with_reducible first | exact HB.out | apply below_alloc | apply pw_below_drewN | apply below_drew1) | exact HB.out)⟩
                      · rw [if_neg c47] at H
                        have c47b0 : decide (a1 < a0) = false := decide_eq_false c47
                        clear c47
                        obtain rfl := Option.some.inj H
                        go_wp2
                        go_ret
                        exact ⟨by first | rfl | (simp [errW_none, errW_some] <;> rfl) | (simp only [← hji40, ← hji41, ← hji43]; first | rfl | (simp [errW_none, errW_some] <;> rfl)) | (simp [*, errW_none, errW_some] <;> rfl), by repeat (first | (with_reducible first | exact HB.out | apply below_alloc | apply pw_below_drewN | apply below_drew1) | exact HB.out)⟩
                    · rw [if_neg c46] at H
                      have c46b0 : decide ((wrap64 (a0 - (ji40))) < (ji43)) = false := decide_eq_false c46
                      clear c46
                      obtain rfl := Option.some.inj H
                      go_wp2
                      go_ret
                      exact ⟨by first | rfl | (simp [errW_none, errW_some] <;> rfl) | (simp only [← hji40, ← hji41, ← hji43]; first | rfl | (simp [errW_none, errW_some] <;> rfl)) | (simp [*, errW_none, errW_some] <;> rfl), by repeat (first | (with_reducible first | exact HB.out | apply below_alloc | apply pw_below_drewN | apply below_drew1) | exact HB.out)⟩
                  · rw [if_neg c45] at H
                    have c45b0 : decide ((wrap64 (-(ji43))) ≤ (wrap64 (a0 - (ji40)))) = false := decide_eq_false c45
                    clear c45
                    obtain rfl := Option.some.inj H
                    go_wp2
                    go_ret
                    exact ⟨by first | rfl | (simp [errW_none, errW_some] <;> rfl) | (simp only [← hji40, ← hji41, ← hji43]; first | rfl | (simp [errW_none, errW_some] <;> rfl)) | (simp [*, errW_none, errW_some] <;> rfl), by repeat (first | (with_reducible first | exact HB.out | apply below_alloc | apply pw_below_drewN | apply below_drew1) | exact HB.out)⟩
                · replace c44 := Bool.eq_false_iff.mpr c44
                  subst c44
                  have H1 : (some false) = some r := by rw [if_neg (show ¬ (false = true) by decide)] at H; exact H
                  clear H
                  have H := H1
                  clear H1
                  obtain rfl := Option.some.inj H
                  go_wp2
                  go_ret
                  exact ⟨by first | rfl | (simp [errW_none, errW_some] <;> rfl) | (simp only [← hji40, ← hji41, ← hji43]; first | rfl | (simp [errW_none, errW_some] <;> rfl)) | (simp [*, errW_none, errW_some] <;> rfl), by repeat (first | (with_reducible first | exact HB.out | apply below_alloc | apply pw_below_drewN | apply below_drew1) | exact HB.out)⟩
              · rw [if_neg c42] at H
                exact absurd H (by simp)
            · rw [if_neg c39] at H
              exact absurd H (by simp)

/-- THE ONE PURE STATEMENT of reedpipelaw03_FixNear: yours. -/
def reedpipelaw03_FixNear.Pure : Prop := ∀ (a0 : Int) (a1 : Int) (a2 : Int), (Lit.int .i64 a0).wf = true → (Lit.int .i64 a1).wf = true → (Lit.int .i64 a2).wf = true → ∃ k, reedpipelaw03_FixNear.f k a0 a1 a2 = some true
theorem reedpipelaw03_FixNear.walk (P : reedpipelaw03_FixNear.Pure) (a0 : Int) (a1 : Int) (a2 : Int) (w : World) (w0 : (Lit.int .i64 a0).wf = true) (w1 : (Lit.int .i64 a1).wf = true) (w2 : (Lit.int .i64 a2).wf = true) :
    Calls Try.prog 3 #[.int .i64 a0, .int .i64 a1, .int .i64 a2] w fun e w' => e = .returned (.bool true) ∧ Below w.heap.size w w' := by
  obtain ⟨k, h⟩ := P a0 a1 a2 w0 w1 w2
  refine (reedpipelaw03_FixNear.calls k a0 a1 a2 true w h).mono ?_
  rintro e w' ⟨rfl, hd⟩
  exact ⟨rfl, hd⟩

end Go.Proofs.Ytehhpaellcffmaa.PrintF
