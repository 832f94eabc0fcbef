-- Written by a program of this session's own (a turned copy of the kit's print); Lean checks it.
import Derived.Test.YtehhpaellcffmaaPrintF0
import Derived.Test.YtehhpaellcffmaaPrintF1
import Derived.Test.YtehhpaellcffmaaPrintF3
namespace Go.Proofs.Ytehhpaellcffmaa.PrintF
open Go.RowKit Go.Proofs.Ytehhpaellcffmaa Go.Proofs.YtehhpaellcffmaaW.PrintWords Go.Proofs.YtehhpaellcffmaaW.PrintLast Go.Proofs.YtehhpaellcffmaaW.PrintMore
attribute [local go_sem] max2_int min2_int max_two min_two max_three min_three max_four min_four   -- for this text's walks alone
set_option linter.unusedVariables false
set_option linter.unusedSimpArgs false

/-! ### reedpipelaw03_FixSums: function 4 -/
mutual
def reedpipelaw03_FixSums.j0 : Nat → Int → Int → Int → Int → Bool → Bool → Option (Bool)
  | 0, _, _, _, _, _, _ => none
  | k + 1, x0, x1, x2, x3, x9, x37 => if x37 = true then (some x9) else ((fix_Round.f k x0 x2).bind fun bt111 => ((fix_Round.f k x1 x2).bind fun bt113 => ((fix_Round.f k (wrap64 (x0 + x1)) x2).bind fun bt115 => ((fix_Round.f k (wrap64 (-x0)) x2).bind fun bt117 => (if bt111.2 = 0 then (if bt113.2 = 0 then (if bt115.2 = 0 then (if bt117.2 = 0 then (if (wrap64 ((wrap64 (bt111.1 + bt113.1)) - bt115.1)) > 1 then (reedpipelaw03_FixSums.j1 k x0 x2 x3 x9 bt111.1 true) else (if (wrap64 ((wrap64 (bt111.1 + bt113.1)) - bt115.1)) < (-1) then (reedpipelaw03_FixSums.j1 k x0 x2 x3 x9 bt111.1 true) else (if (wrap64 (bt111.1 + bt117.1)) = 0 then (reedpipelaw03_FixSums.j1 k x0 x2 x3 x9 bt111.1 false) else (reedpipelaw03_FixSums.j1 k x0 x2 x3 x9 bt111.1 ((wrap64 (bt111.1 + bt117.1)) != 1))))) else (reedpipelaw03_FixSums.j1 k x0 x2 x3 x9 bt111.1 true)) else (reedpipelaw03_FixSums.j1 k x0 x2 x3 x9 bt111.1 true)) else (reedpipelaw03_FixSums.j1 k x0 x2 x3 x9 bt111.1 true)) else (if x9 = true then (if bt113.2 = bt111.2 then (if bt115.2 = bt111.2 then (some (bt117.2 == bt111.2)) else (some false)) else (some false)) else (some false)))))))
def reedpipelaw03_FixSums.j1 : Nat → Int → Int → Int → Bool → Int → Bool → Option (Bool)
  | 0, _, _, _, _, _, _ => none
  | k + 1, x0, x2, x3, x9, x10, x118 => if x118 = true then (some false) else ((fix_Round.f k x10 x3).bind fun bt119 => (if bt119.2 = 0 then (if (wrap64 (x2 + x3)) > 62 then (some x9) else ((fix_Round.f k x0 (wrap64 (x2 + x3))).bind fun bt121 => (if x9 = true then (if bt121.2 = 0 then (if bt119.1 = bt121.1 then (some true) else (some (bt119.1 == (wrap64 (bt121.1 + 1))))) else (some false)) else (some false)))) else (some x9)))
end
def reedpipelaw03_FixSums.f (k : Nat) (a0 : Int) (a1 : Int) (a2 : Int) (a3 : Int) : Option (Bool) := (reedpipelaw03_alive.f k).bind fun t110 => (if a0 > 1152921504606846976 then (reedpipelaw03_FixSums.j0 k a0 a1 a2 a3 t110 true) else (if a0 < (-1152921504606846976) then (reedpipelaw03_FixSums.j0 k a0 a1 a2 a3 t110 true) else (if a1 > 1152921504606846976 then (reedpipelaw03_FixSums.j0 k a0 a1 a2 a3 t110 true) else (reedpipelaw03_FixSums.j0 k a0 a1 a2 a3 t110 (decide (a1 < (-1152921504606846976)))))))
theorem reedpipelaw03_FixSums.mono_l : ∀ k, (∀ y0 y1 y2 y3 y4 y5, LeO (reedpipelaw03_FixSums.j0 k y0 y1 y2 y3 y4 y5) (reedpipelaw03_FixSums.j0 (k + 1) y0 y1 y2 y3 y4 y5)) ∧ (∀ y0 y1 y2 y3 y4 y5, LeO (reedpipelaw03_FixSums.j1 k y0 y1 y2 y3 y4 y5) (reedpipelaw03_FixSums.j1 (k + 1) y0 y1 y2 y3 y4 y5))
  | 0 => ⟨fun _ _ _ _ _ _ r h => by simp [reedpipelaw03_FixSums.j0] at h, fun _ _ _ _ _ _ r h => by simp [reedpipelaw03_FixSums.j1] at h⟩
  | k + 1 => by
    obtain ⟨ih0, ih1⟩ := reedpipelaw03_FixSums.mono_l k
    refine ⟨?_, ?_⟩
    · intro y0 y1 y2 y3 y4 y5
      unfold reedpipelaw03_FixSums.j0
      repeat' first
      | (with_reducible exact ih0 _ _ _ _ _ _)
      | (with_reducible exact ih1 _ _ _ _ _ _)
      | (with_reducible exact fix_Round.mono _ _ _)
      | (with_reducible exact reedpipelaw03_alive.mono _)
      | (with_reducible exact LeO.refl _)
      | (with_reducible exact LeO.none _)
      | (with_reducible refine LeO.ite ?_ ?_)
      | (with_reducible refine LeO.bind ?_ (fun _ => ?_))
      | exact ih0 _ _ _ _ _ _
      | exact ih1 _ _ _ _ _ _
      | exact fix_Round.mono _ _ _
      | exact reedpipelaw03_alive.mono _
      | exact LeO.none _
      | refine LeO.ite ?_ ?_
      | refine LeO.bind ?_ (fun _ => ?_)
    · intro y0 y1 y2 y3 y4 y5
      unfold reedpipelaw03_FixSums.j1
      repeat' first
      | (with_reducible exact ih0 _ _ _ _ _ _)
      | (with_reducible exact ih1 _ _ _ _ _ _)
      | (with_reducible exact fix_Round.mono _ _ _)
      | (with_reducible exact reedpipelaw03_alive.mono _)
      | (with_reducible exact LeO.refl _)
      | (with_reducible exact LeO.none _)
      | (with_reducible refine LeO.ite ?_ ?_)
      | (with_reducible refine LeO.bind ?_ (fun _ => ?_))
      | exact ih0 _ _ _ _ _ _
      | exact ih1 _ _ _ _ _ _
      | exact fix_Round.mono _ _ _
      | exact reedpipelaw03_alive.mono _
      | exact LeO.none _
      | refine LeO.ite ?_ ?_
      | refine LeO.bind ?_ (fun _ => ?_)
theorem reedpipelaw03_FixSums.mono : ∀ a0 a1 a2 a3 k, LeO (reedpipelaw03_FixSums.f k a0 a1 a2 a3) (reedpipelaw03_FixSums.f (k + 1) a0 a1 a2 a3) := by
  intro a0 a1 a2 a3 k
  obtain ⟨ih0, ih1⟩ := reedpipelaw03_FixSums.mono_l k
  unfold reedpipelaw03_FixSums.f
  repeat' first
      | (with_reducible exact ih0 _ _ _ _ _ _)
      | (with_reducible exact ih1 _ _ _ _ _ _)
      | (with_reducible exact fix_Round.mono _ _ _)
      | (with_reducible exact reedpipelaw03_alive.mono _)
      | (with_reducible exact LeO.refl _)
      | (with_reducible exact LeO.none _)
      | (with_reducible refine LeO.ite ?_ ?_)
      | (with_reducible refine LeO.bind ?_ (fun _ => ?_))
      | exact ih0 _ _ _ _ _ _
      | exact ih1 _ _ _ _ _ _
      | exact fix_Round.mono _ _ _
      | exact reedpipelaw03_alive.mono _
      | exact LeO.none _
      | refine LeO.ite ?_ ?_
      | refine LeO.bind ?_ (fun _ => ?_)
set_option maxHeartbeats 8000000 in
set_option maxRecDepth 100000 in
theorem reedpipelaw03_FixSums.calls (k : Nat) (a0 : Int) (a1 : Int) (a2 : Int) (a3 : Int) (r : Bool) (w : World) (h : reedpipelaw03_FixSums.f k a0 a1 a2 a3 = some r) :
    Calls Try.prog 4 #[.int .i64 a0, .int .i64 a1, .int .i64 a2, .int .i64 a3] w fun e w' => e = .returned (.bool r) ∧ Below w.heap.size w w' := by
  have HB := Aside0.mk (Below.refl w.heap.size w)
  have H : ((reedpipelaw03_alive.f k).bind fun t110 => (if a0 > 1152921504606846976 then (reedpipelaw03_FixSums.j0 k a0 a1 a2 a3 t110 true) else (if a0 < (-1152921504606846976) then (reedpipelaw03_FixSums.j0 k a0 a1 a2 a3 t110 true) else (if a1 > 1152921504606846976 then (reedpipelaw03_FixSums.j0 k a0 a1 a2 a3 t110 true) else (reedpipelaw03_FixSums.j0 k a0 a1 a2 a3 t110 (decide (a1 < (-1152921504606846976)))))))) = some r := h
  clear h
  replace H := Option.bind_eq_some_iff.mp H
  obtain ⟨t110, A50, H⟩ := H
  replace H : (if a0 > 1152921504606846976 then (reedpipelaw03_FixSums.j0 k a0 a1 a2 a3 t110 true) else (if a0 < (-1152921504606846976) then (reedpipelaw03_FixSums.j0 k a0 a1 a2 a3 t110 true) else (if a1 > 1152921504606846976 then (reedpipelaw03_FixSums.j0 k a0 a1 a2 a3 t110 true) else (reedpipelaw03_FixSums.j0 k a0 a1 a2 a3 t110 (decide (a1 < (-1152921504606846976))))))) = some r := H
  have A5 := Aside0.mk A50
  clear A50
  have HC6 := Aside0.mk H
  clear H
  go_enter Try.func4, Try.ntmps4
  go_upto_region 2 with (first | ((with_reducible refine gate_callee (f := 9) rfl ?_); refine goesL_ (some 23) rfl rfl Try.func9 (by kernel_rfl) rfl #[] rfl (by (try simp only [List.map_toArray, List.map_cons, List.map_nil]); first | done | rfl | (simp only [List.length_drop, List.length_take]; rfl)) ?_; (with_reducible refine (reedpipelaw03_alive.calls k  t110 _ A5.out).mono ?_); rintro e w7 ⟨rfl, hb⟩; refine ⟨_, rfl, ?_⟩; have n0_ := Aside0.mk (below_step (by repeat (first | (with_reducible first | exact HB.out | apply below_alloc | apply pw_below_drewN | apply below_drew1) | exact HB.out)) hb); clear HB; have HB := n0_; clear n0_; (try clear hb); (try clear hb2); (try clear hk); (try clear hi)))
  (try simp only [Act.put, List.setIfInBounds_toArray, List.set_cons_zero, List.set_cons_succ])
  go_cut [37] (fun v37 wc => ∃ (kq : Nat) (x37_5 : Bool), v37 = .bool x37_5 ∧ Aside0 (reedpipelaw03_FixSums.j0 kq a0 a1 a2 a3 t110 x37_5 = some r) ∧ Aside0 (kq ≤ k) ∧ Aside0 (Below w.heap.size w wc))
  case first =>
    have H := HC6.out
    clear HC6
    by_cases c8 : a0 > 1152921504606846976
    · rw [if_pos c8] at H
      have c8b0 : decide (1152921504606846976 < a0) = true := decide_eq_true c8
      clear c8
      (first | rw [c8b0] | (simp only [i64_w, i32_w]; rw [c8b0]) | skip)
      have H' := Aside0.mk H
      clear H
      go_wp2
      go_meet
      case rel => exact ⟨_, (true), (by first | rfl | (simp; done) | (simp [*]; done)), H', ⟨by first | omega | exact Nat.le_refl _⟩, ⟨by repeat (first | (with_reducible first | exact HB.out | apply below_alloc | apply pw_below_drewN | apply below_drew1) | exact HB.out)⟩⟩
    · rw [if_neg c8] at H
      have c8b0 : decide (1152921504606846976 < a0) = false := decide_eq_false c8
      clear c8
      (first | rw [c8b0] | (simp only [i64_w, i32_w]; rw [c8b0]) | skip)
      by_cases c9 : a0 < (-1152921504606846976)
      · rw [if_pos c9] at H
        have c9b0 : decide (a0 < (-1152921504606846976)) = true := decide_eq_true c9
        clear c9
        have H' := Aside0.mk H
        clear H
        go_wp2
        go_meet
        case rel => exact ⟨_, (true), (by first | rfl | (simp; done) | (simp [*]; done)), H', ⟨by first | omega | exact Nat.le_refl _⟩, ⟨by repeat (first | (with_reducible first | exact HB.out | apply below_alloc | apply pw_below_drewN | apply below_drew1) | exact HB.out)⟩⟩
      · rw [if_neg c9] at H
        have c9b0 : decide (a0 < (-1152921504606846976)) = false := decide_eq_false c9
        clear c9
        by_cases c10 : a1 > 1152921504606846976
        · rw [if_pos c10] at H
          have c10b0 : decide (1152921504606846976 < a1) = true := decide_eq_true c10
          clear c10
          have H' := Aside0.mk H
          clear H
          go_wp2
          go_meet
          case rel => exact ⟨_, (true), (by first | rfl | (simp; done) | (simp [*]; done)), H', ⟨by first | omega | exact Nat.le_refl _⟩, ⟨by repeat (first | (with_reducible first | exact HB.out | apply below_alloc | apply pw_below_drewN | apply below_drew1) | exact HB.out)⟩⟩
        · rw [if_neg c10] at H
          have c10b0 : decide (1152921504606846976 < a1) = false := decide_eq_false c10
          clear c10
          have H' := Aside0.mk H
          clear H
          go_wp2
          go_meet
          case rel => exact ⟨_, (decide (a1 < (-1152921504606846976))), (by first | rfl | (simp; done) | (simp [*]; done)), H', ⟨by first | omega | exact Nat.le_refl _⟩, ⟨by repeat (first | (with_reducible first | exact HB.out | apply below_alloc | apply pw_below_drewN | apply below_drew1) | exact HB.out)⟩⟩
  case rest =>
    clear HC6
    try clear c1
    try clear p2
    try clear c4
    try clear c8
    try clear c8b0
    try clear c9
    try clear c9b0
    try clear c10
    try clear c10b0
    obtain ⟨kq, x37_5, rfl, HA, HJ5, HB⟩ := hcut
    cases kq with
    | zero => exact absurd HA.out (by simp [reedpipelaw03_FixSums.j0])
    | succ kj5 =>
      have H := HA.out
      clear HA
      simp only [reedpipelaw03_FixSums.j0] at H
      by_cases c11 : x37_5 = true
      · subst c11
        have H1 : (some t110) = some r := by rw [if_pos rfl] at H; exact H
        clear H
        have H := H1
        clear H1
        obtain rfl := Option.some.inj H
        go_wp2
        go_ret
        exact ⟨by first | rfl | (simp [errW_none, errW_some] <;> rfl) | (simp [*, errW_none, errW_some] <;> rfl), by repeat (first | (with_reducible first | exact HB.out | apply below_alloc | apply pw_below_drewN | apply below_drew1) | exact HB.out)⟩
      · replace c11 := Bool.eq_false_iff.mpr c11
        subst c11
        have H1 : ((fix_Round.f kj5 a0 a2).bind fun bt111 => ((fix_Round.f kj5 a1 a2).bind fun bt113 => ((fix_Round.f kj5 (wrap64 (a0 + a1)) a2).bind fun bt115 => ((fix_Round.f kj5 (wrap64 (-a0)) a2).bind fun bt117 => (if bt111.2 = 0 then (if bt113.2 = 0 then (if bt115.2 = 0 then (if bt117.2 = 0 then (if (wrap64 ((wrap64 (bt111.1 + bt113.1)) - bt115.1)) > 1 then (reedpipelaw03_FixSums.j1 kj5 a0 a2 a3 t110 bt111.1 true) else (if (wrap64 ((wrap64 (bt111.1 + bt113.1)) - bt115.1)) < (-1) then (reedpipelaw03_FixSums.j1 kj5 a0 a2 a3 t110 bt111.1 true) else (if (wrap64 (bt111.1 + bt117.1)) = 0 then (reedpipelaw03_FixSums.j1 kj5 a0 a2 a3 t110 bt111.1 false) else (reedpipelaw03_FixSums.j1 kj5 a0 a2 a3 t110 bt111.1 ((wrap64 (bt111.1 + bt117.1)) != 1))))) else (reedpipelaw03_FixSums.j1 kj5 a0 a2 a3 t110 bt111.1 true)) else (reedpipelaw03_FixSums.j1 kj5 a0 a2 a3 t110 bt111.1 true)) else (reedpipelaw03_FixSums.j1 kj5 a0 a2 a3 t110 bt111.1 true)) else (if t110 = true then (if bt113.2 = bt111.2 then (if bt115.2 = bt111.2 then (some (bt117.2 == bt111.2)) else (some false)) else (some false)) else (some false))))))) = some r := by rw [if_neg (show ¬ (false = true) by decide)] at H; exact H
        clear H
        have H := H1
        clear H1
        replace H := Option.bind_eq_some_iff.mp H
        obtain ⟨⟨t111, t112⟩, A120, H⟩ := H
        replace H : ((fix_Round.f kj5 a1 a2).bind fun bt113 => ((fix_Round.f kj5 (wrap64 (a0 + a1)) a2).bind fun bt115 => ((fix_Round.f kj5 (wrap64 (-a0)) a2).bind fun bt117 => (if t112 = 0 then (if bt113.2 = 0 then (if bt115.2 = 0 then (if bt117.2 = 0 then (if (wrap64 ((wrap64 (t111 + bt113.1)) - bt115.1)) > 1 then (reedpipelaw03_FixSums.j1 kj5 a0 a2 a3 t110 t111 true) else (if (wrap64 ((wrap64 (t111 + bt113.1)) - bt115.1)) < (-1) then (reedpipelaw03_FixSums.j1 kj5 a0 a2 a3 t110 t111 true) else (if (wrap64 (t111 + bt117.1)) = 0 then (reedpipelaw03_FixSums.j1 kj5 a0 a2 a3 t110 t111 false) else (reedpipelaw03_FixSums.j1 kj5 a0 a2 a3 t110 t111 ((wrap64 (t111 + bt117.1)) != 1))))) else (reedpipelaw03_FixSums.j1 kj5 a0 a2 a3 t110 t111 true)) else (reedpipelaw03_FixSums.j1 kj5 a0 a2 a3 t110 t111 true)) else (reedpipelaw03_FixSums.j1 kj5 a0 a2 a3 t110 t111 true)) else (if t110 = true then (if bt113.2 = t112 then (if bt115.2 = t112 then (some (bt117.2 == t112)) else (some false)) else (some false)) else (some false)))))) = some r := H
        have A12 := Aside0.mk A120
        clear A120
        replace H := Option.bind_eq_some_iff.mp H
        obtain ⟨⟨t113, t114⟩, A130, H⟩ := H
        replace H : ((fix_Round.f kj5 (wrap64 (a0 + a1)) a2).bind fun bt115 => ((fix_Round.f kj5 (wrap64 (-a0)) a2).bind fun bt117 => (if t112 = 0 then (if t114 = 0 then (if bt115.2 = 0 then (if bt117.2 = 0 then (if (wrap64 ((wrap64 (t111 + t113)) - bt115.1)) > 1 then (reedpipelaw03_FixSums.j1 kj5 a0 a2 a3 t110 t111 true) else (if (wrap64 ((wrap64 (t111 + t113)) - bt115.1)) < (-1) then (reedpipelaw03_FixSums.j1 kj5 a0 a2 a3 t110 t111 true) else (if (wrap64 (t111 + bt117.1)) = 0 then (reedpipelaw03_FixSums.j1 kj5 a0 a2 a3 t110 t111 false) else (reedpipelaw03_FixSums.j1 kj5 a0 a2 a3 t110 t111 ((wrap64 (t111 + bt117.1)) != 1))))) else (reedpipelaw03_FixSums.j1 kj5 a0 a2 a3 t110 t111 true)) else (reedpipelaw03_FixSums.j1 kj5 a0 a2 a3 t110 t111 true)) else (reedpipelaw03_FixSums.j1 kj5 a0 a2 a3 t110 t111 true)) else (if t110 = true then (if t114 = t112 then (if bt115.2 = t112 then (some (bt117.2 == t112)) else (some false)) else (some false)) else (some false))))) = some r := H
        have A13 := Aside0.mk A130
        clear A130
        replace H := Option.bind_eq_some_iff.mp H
        obtain ⟨⟨t115, t116⟩, A140, H⟩ := H
        replace H : ((fix_Round.f kj5 (wrap64 (-a0)) a2).bind fun bt117 => (if t112 = 0 then (if t114 = 0 then (if t116 = 0 then (if bt117.2 = 0 then (if (wrap64 ((wrap64 (t111 + t113)) - t115)) > 1 then (reedpipelaw03_FixSums.j1 kj5 a0 a2 a3 t110 t111 true) else (if (wrap64 ((wrap64 (t111 + t113)) - t115)) < (-1) then (reedpipelaw03_FixSums.j1 kj5 a0 a2 a3 t110 t111 true) else (if (wrap64 (t111 + bt117.1)) = 0 then (reedpipelaw03_FixSums.j1 kj5 a0 a2 a3 t110 t111 false) else (reedpipelaw03_FixSums.j1 kj5 a0 a2 a3 t110 t111 ((wrap64 (t111 + bt117.1)) != 1))))) else (reedpipelaw03_FixSums.j1 kj5 a0 a2 a3 t110 t111 true)) else (reedpipelaw03_FixSums.j1 kj5 a0 a2 a3 t110 t111 true)) else (reedpipelaw03_FixSums.j1 kj5 a0 a2 a3 t110 t111 true)) else (if t110 = true then (if t114 = t112 then (if t116 = t112 then (some (bt117.2 == t112)) else (some false)) else (some false)) else (some false)))) = some r := H
        have A14 := Aside0.mk A140
        clear A140
        replace H := Option.bind_eq_some_iff.mp H
        obtain ⟨⟨t117, t118⟩, A150, H⟩ := H
        replace H : (if t112 = 0 then (if t114 = 0 then (if t116 = 0 then (if t118 = 0 then (if (wrap64 ((wrap64 (t111 + t113)) - t115)) > 1 then (reedpipelaw03_FixSums.j1 kj5 a0 a2 a3 t110 t111 true) else (if (wrap64 ((wrap64 (t111 + t113)) - t115)) < (-1) then (reedpipelaw03_FixSums.j1 kj5 a0 a2 a3 t110 t111 true) else (if (wrap64 (t111 + t117)) = 0 then (reedpipelaw03_FixSums.j1 kj5 a0 a2 a3 t110 t111 false) else (reedpipelaw03_FixSums.j1 kj5 a0 a2 a3 t110 t111 ((wrap64 (t111 + t117)) != 1))))) else (reedpipelaw03_FixSums.j1 kj5 a0 a2 a3 t110 t111 true)) else (reedpipelaw03_FixSums.j1 kj5 a0 a2 a3 t110 t111 true)) else (reedpipelaw03_FixSums.j1 kj5 a0 a2 a3 t110 t111 true)) else (if t110 = true then (if t114 = t112 then (if t116 = t112 then (some (t118 == t112)) else (some false)) else (some false)) else (some false))) = some r := H
        have A15 := Aside0.mk A150
        clear A150
        by_cases c16 : t112 = 0
        · rw [if_pos c16] at H
          have c16b0 : (t112 == 0) = true := beq_iff_eq.mpr c16
          have c16b1 : (t112 != 0) = false := bne_eq_false_iff_eq.mpr c16
          clear c16
          have HC17 := Aside0.mk H
          clear H
          go_upto_region 11 with (first | ((with_reducible refine gate_callee (f := 10) rfl ?_); refine goesL_ (some 42) rfl rfl Try.func10 (by kernel_rfl) rfl #[.int .i64 a0, .int .i64 a2] rfl (by (try simp only [List.map_toArray, List.map_cons, List.map_nil]); first | done | rfl | (simp only [List.length_drop, List.length_take]; rfl)) ?_; (with_reducible refine (fix_Round.calls kj5 a0 a2 t111 t112 _ A12.out).mono ?_); rintro e w' ⟨rfl, ⟨nd, rfl⟩⟩; refine ⟨_, rfl, ?_⟩) | ((with_reducible refine gate_callee (f := 10) rfl ?_); refine goesL_ (some 48) rfl rfl Try.func10 (by kernel_rfl) rfl #[.int .i64 a1, .int .i64 a2] rfl (by (try simp only [List.map_toArray, List.map_cons, List.map_nil]); first | done | rfl | (simp only [List.length_drop, List.length_take]; rfl)) ?_; (with_reducible refine (fix_Round.calls kj5 a1 a2 t113 t114 _ A13.out).mono ?_); rintro e w' ⟨rfl, ⟨nd, rfl⟩⟩; refine ⟨_, rfl, ?_⟩) | ((with_reducible refine gate_callee (f := 10) rfl ?_); refine goesL_ (some 56) rfl rfl Try.func10 (by kernel_rfl) rfl #[.int .i64 (wrap64 (a0 + a1)), .int .i64 a2] rfl (by (try simp only [List.map_toArray, List.map_cons, List.map_nil]); first | done | rfl | (simp only [List.length_drop, List.length_take]; rfl)) ?_; (with_reducible refine (fix_Round.calls kj5 (wrap64 (a0 + a1)) a2 t115 t116 _ A14.out).mono ?_); rintro e w' ⟨rfl, ⟨nd, rfl⟩⟩; refine ⟨_, rfl, ?_⟩) | ((with_reducible refine gate_callee (f := 10) rfl ?_); refine goesL_ (some 63) rfl rfl Try.func10 (by kernel_rfl) rfl #[.int .i64 (wrap64 (-a0)), .int .i64 a2] rfl (by (try simp only [List.map_toArray, List.map_cons, List.map_nil]); first | done | rfl | (simp only [List.length_drop, List.length_take]; rfl)) ?_; (with_reducible refine (fix_Round.calls kj5 (wrap64 (-a0)) a2 t117 t118 _ A15.out).mono ?_); rintro e w' ⟨rfl, ⟨nd, rfl⟩⟩; refine ⟨_, rfl, ?_⟩))
          (try simp only [Act.put, List.setIfInBounds_toArray, List.set_cons_zero, List.set_cons_succ])
          go_cut [118] (fun v118 wc => ∃ (kq : Nat) (x118_16 : Bool), v118 = .bool x118_16 ∧ Aside0 (reedpipelaw03_FixSums.j1 kq a0 a2 a3 t110 t111 x118_16 = some r) ∧ Aside0 (kq ≤ kj5) ∧ Aside0 (Below w.heap.size w wc))
          case first =>
            have H := HC17.out
            clear HC17
            by_cases c18 : t114 = 0
            · rw [if_pos c18] at H
              have c18b0 : (t114 == 0) = true := beq_iff_eq.mpr c18
              have c18b1 : (t114 != 0) = false := bne_eq_false_iff_eq.mpr c18
              clear c18
              (first | rw [c18b0] | (simp only [i64_w, i32_w]; rw [c18b0]) | skip)
              by_cases c19 : t116 = 0
              · rw [if_pos c19] at H
                have c19b0 : (t116 == 0) = true := beq_iff_eq.mpr c19
                have c19b1 : (t116 != 0) = false := bne_eq_false_iff_eq.mpr c19
                clear c19
                by_cases c20 : t118 = 0
                · rw [if_pos c20] at H
                  have c20b0 : (t118 == 0) = true := beq_iff_eq.mpr c20
                  have c20b1 : (t118 != 0) = false := bne_eq_false_iff_eq.mpr c20
                  clear c20
                  by_cases c21 : (wrap64 ((wrap64 (t111 + t113)) - t115)) > 1
                  · rw [if_pos c21] at H
                    have c21b0 : decide (1 < (wrap64 ((wrap64 (t111 + t113)) - t115))) = true := decide_eq_true c21
                    clear c21
                    have H' := Aside0.mk H
                    clear H
                    go_wp2
                    go_meet
                    case rel => exact ⟨_, (true), (by first | rfl | (simp; done) | (simp [*]; done)), H', ⟨by have := HJ5.out; first | omega | exact Nat.le_refl _⟩, ⟨by repeat (first | (with_reducible first | exact HB.out | apply below_alloc | apply pw_below_drewN | apply below_drew1) | exact HB.out)⟩⟩
                  · rw [if_neg c21] at H
                    have c21b0 : decide (1 < (wrap64 ((wrap64 (t111 + t113)) - t115))) = false := decide_eq_false c21
                    clear c21
                    by_cases c22 : (wrap64 ((wrap64 (t111 + t113)) - t115)) < (-1)
                    · rw [if_pos c22] at H
                      have c22b0 : decide ((wrap64 ((wrap64 (t111 + t113)) - t115)) < (-1)) = true := decide_eq_true c22
                      clear c22
                      have H' := Aside0.mk H
                      clear H
                      go_wp2
                      go_meet
                      case rel => exact ⟨_, (true), (by first | rfl | (simp; done) | (simp [*]; done)), H', ⟨by have := HJ5.out; first | omega | exact Nat.le_refl _⟩, ⟨by repeat (first | (with_reducible first | exact HB.out | apply below_alloc | apply pw_below_drewN | apply below_drew1) | exact HB.out)⟩⟩
                    · rw [if_neg c22] at H
                      have c22b0 : decide ((wrap64 ((wrap64 (t111 + t113)) - t115)) < (-1)) = false := decide_eq_false c22
                      clear c22
                      by_cases c23 : (wrap64 (t111 + t117)) = 0
                      · rw [if_pos c23] at H
                        have c23b0 : ((wrap64 (t111 + t117)) == 0) = true := beq_iff_eq.mpr c23
                        have c23b1 : ((wrap64 (t111 + t117)) != 0) = false := bne_eq_false_iff_eq.mpr c23
                        clear c23
                        have H' := Aside0.mk H
                        clear H
                        go_wp2
                        go_meet
                        case rel => exact ⟨_, (false), (by first | rfl | (simp; done) | (simp [*]; done)), H', ⟨by have := HJ5.out; first | omega | exact Nat.le_refl _⟩, ⟨by repeat (first | (with_reducible first | exact HB.out | apply below_alloc | apply pw_below_drewN | apply below_drew1) | exact HB.out)⟩⟩
                      · rw [if_neg c23] at H
                        have c23b0 : ((wrap64 (t111 + t117)) == 0) = false := beq_eq_false_iff_ne.mpr c23
                        have c23b1 : ((wrap64 (t111 + t117)) != 0) = true := bne_iff_ne.mpr c23
                        have H' := Aside0.mk H
                        clear H
                        go_wp2
                        go_meet
                        case rel => exact ⟨_, (((wrap64 (t111 + t117)) != 1)), (by first | rfl | (simp; done) | (simp [*]; done)), H', ⟨by have := HJ5.out; first | omega | exact Nat.le_refl _⟩, ⟨by repeat (first | (with_reducible first | exact HB.out | apply below_alloc | apply pw_below_drewN | apply below_drew1) | exact HB.out)⟩⟩
                · rw [if_neg c20] at H
                  have c20b0 : (t118 == 0) = false := beq_eq_false_iff_ne.mpr c20
                  have c20b1 : (t118 != 0) = true := bne_iff_ne.mpr c20
                  have H' := Aside0.mk H
                  clear H
                  go_wp2
                  go_meet
                  case rel => exact ⟨_, (true), (by first | rfl | (simp; done) | (simp [*]; done)), H', ⟨by have := HJ5.out; first | omega | exact Nat.le_refl _⟩, ⟨by repeat (first | (with_reducible first | exact HB.out | apply below_alloc | apply pw_below_drewN | apply below_drew1) | exact HB.out)⟩⟩
              · rw [if_neg c19] at H
                have c19b0 : (t116 == 0) = false := beq_eq_false_iff_ne.mpr c19
                have c19b1 : (t116 != 0) = true := bne_iff_ne.mpr c19
                have H' := Aside0.mk H
                clear H
                go_wp2
                go_meet
                case rel => exact ⟨_, (true), (by first | rfl | (simp; done) | (simp [*]; done)), H', ⟨by have := HJ5.out; first | omega | exact Nat.le_refl _⟩, ⟨by repeat (first | (with_reducible first | exact HB.out | apply below_alloc | apply pw_below_drewN | apply below_drew1) | exact HB.out)⟩⟩
            · rw [if_neg c18] at H
              have c18b0 : (t114 == 0) = false := beq_eq_false_iff_ne.mpr c18
              have c18b1 : (t114 != 0) = true := bne_iff_ne.mpr c18
              (first | rw [c18b0] | (simp only [i64_w, i32_w]; rw [c18b0]) | skip)
              have H' := Aside0.mk H
              clear H
              go_wp2
              go_meet
              case rel => exact ⟨_, (true), (by first | rfl | (simp; done) | (simp [*]; done)), H', ⟨by have := HJ5.out; first | omega | exact Nat.le_refl _⟩, ⟨by repeat (first | (with_reducible first | exact HB.out | apply below_alloc | apply pw_below_drewN | apply below_drew1) | exact HB.out)⟩⟩
          case rest =>
            clear HC17
            try clear c1
            try clear c2
            try clear p2
            try clear c4
            try clear p6
            try clear c8
            try clear c8b0
            try clear c9
            try clear c9b0
            try clear c10
            try clear c10b0
            try clear c11
            try clear c16
            try clear c16b0
            try clear c16b1
            try clear c18
            try clear c18b0
            try clear c18b1
            try clear c19
            try clear c19b0
            try clear c19b1
            try clear c20
            try clear c20b0
            try clear c20b1
            try clear c21
            try clear c21b0
            try clear c22
            try clear c22b0
            try clear c23
            try clear c23b0
            try clear c23b1
            try clear p2
            obtain ⟨kq, x118_16, rfl, HA, HJ16, HB⟩ := hcut
            cases kq with
            | zero => exact absurd HA.out (by simp [reedpipelaw03_FixSums.j1])
            | succ kj16 =>
              have H := HA.out
              clear HA
              simp only [reedpipelaw03_FixSums.j1] at H
              by_cases c24 : x118_16 = true
              · subst c24
                have H1 : (some false) = some r := by rw [if_pos rfl] at H; exact H
                clear H
                have H := H1
                clear H1
                obtain rfl := Option.some.inj H
                go_wp2
                go_ret
                exact ⟨by first | rfl | (simp [errW_none, errW_some] <;> rfl) | (simp [*, errW_none, errW_some] <;> rfl), by repeat (first | (with_reducible first | exact HB.out | apply below_alloc | apply pw_below_drewN | apply below_drew1) | exact HB.out)⟩
              · replace c24 := Bool.eq_false_iff.mpr c24
                subst c24
                have H1 : ((fix_Round.f kj16 t111 a3).bind fun bt119 => (if bt119.2 = 0 then (if (wrap64 (a2 + a3)) > 62 then (some t110) else ((fix_Round.f kj16 a0 (wrap64 (a2 + a3))).bind fun bt121 => (if t110 = true then (if bt121.2 = 0 then (if bt119.1 = bt121.1 then (some true) else (some (bt119.1 == (wrap64 (bt121.1 + 1))))) else (some false)) else (some false)))) else (some t110))) = some r := by rw [if_neg (show ¬ (false = true) by decide)] at H; exact H
                clear H
                have H := H1
                clear H1
                replace H := Option.bind_eq_some_iff.mp H
                obtain ⟨⟨t119, t120⟩, A250, H⟩ := H
                replace H : (if t120 = 0 then (if (wrap64 (a2 + a3)) > 62 then (some t110) else ((fix_Round.f kj16 a0 (wrap64 (a2 + a3))).bind fun bt121 => (if t110 = true then (if bt121.2 = 0 then (if t119 = bt121.1 then (some true) else (some (t119 == (wrap64 (bt121.1 + 1))))) else (some false)) else (some false)))) else (some t110)) = some r := H
                have A25 := Aside0.mk A250
                clear A250
                by_cases c26 : t120 = 0
                · rw [if_pos c26] at H
                  have c26b0 : (t120 == 0) = true := beq_iff_eq.mpr c26
                  have c26b1 : (t120 != 0) = false := bne_eq_false_iff_eq.mpr c26
                  clear c26
                  by_cases c27 : (wrap64 (a2 + a3)) > 62
                  · rw [if_pos c27] at H
                    have c27b0 : decide (62 < (wrap64 (a2 + a3))) = true := decide_eq_true c27
                    clear c27
                    obtain rfl := Option.some.inj H
                    go_wp2_with (first | ((with_reducible refine gate_callee (f := 10) rfl ?_); refine goesL_ (some 122) rfl rfl Try.func10 (by kernel_rfl) rfl #[.int .i64 t111, .int .i64 a3] rfl (by (try simp only [List.map_toArray, List.map_cons, List.map_nil]); first | done | rfl | (simp only [List.length_drop, List.length_take]; rfl)) ?_; (with_reducible refine (fix_Round.calls kj16 t111 a3 t119 t120 _ A25.out).mono ?_); rintro e w' ⟨rfl, ⟨nd, rfl⟩⟩; refine ⟨_, rfl, ?_⟩))
                    go_ret
                    exact ⟨by first | rfl | (simp [errW_none, errW_some] <;> rfl) | (simp [*, errW_none, errW_some] <;> rfl), by repeat (first | (with_reducible first | exact HB.out | apply below_alloc | apply pw_below_drewN | apply below_drew1) | exact HB.out)⟩
                  · rw [if_neg c27] at H
                    have c27b0 : decide (62 < (wrap64 (a2 + a3))) = false := decide_eq_false c27
                    clear c27
                    replace H := Option.bind_eq_some_iff.mp H
                    obtain ⟨⟨t121, t122⟩, A280, H⟩ := H
                    replace H : (if t110 = true then (if t122 = 0 then (if t119 = t121 then (some true) else (some (t119 == (wrap64 (t121 + 1))))) else (some false)) else (some false)) = some r := H
                    have A28 := Aside0.mk A280
                    clear A280
                    by_cases c29 : t110 = true
                    · subst c29
                      have H1 : (if t122 = 0 then (if t119 = t121 then (some true) else (some (t119 == (wrap64 (t121 + 1))))) else (some false)) = some r := by rw [if_pos rfl] at H; exact H
                      clear H
                      have H := H1
                      clear H1
                      by_cases c30 : t122 = 0
                      · rw [if_pos c30] at H
                        have c30b0 : (t122 == 0) = true := beq_iff_eq.mpr c30
                        have c30b1 : (t122 != 0) = false := bne_eq_false_iff_eq.mpr c30
                        clear c30
                        by_cases c31 : t119 = t121
                        · rw [if_pos c31] at H
                          have c31b0 : (t119 == t121) = true := beq_iff_eq.mpr c31
                          have c31b1 : (t119 != t121) = false := bne_eq_false_iff_eq.mpr c31
                          clear c31
                          obtain rfl := Option.some.inj H
                          go_wp2_with (first | ((with_reducible refine gate_callee (f := 10) rfl ?_); refine goesL_ (some 122) rfl rfl Try.func10 (by kernel_rfl) rfl #[.int .i64 t111, .int .i64 a3] rfl (by (try simp only [List.map_toArray, List.map_cons, List.map_nil]); first | done | rfl | (simp only [List.length_drop, List.length_take]; rfl)) ?_; (with_reducible refine (fix_Round.calls kj16 t111 a3 t119 t120 _ A25.out).mono ?_); rintro e w' ⟨rfl, ⟨nd, rfl⟩⟩; refine ⟨_, rfl, ?_⟩) | ((with_reducible refine gate_callee (f := 10) rfl ?_); refine goesL_ (some 139) rfl rfl Try.func10 (by kernel_rfl) rfl #[.int .i64 a0, .int .i64 (wrap64 (a2 + a3))] rfl (by (try simp only [List.map_toArray, List.map_cons, List.map_nil]); first | done | rfl | (simp only [List.length_drop, List.length_take]; rfl)) ?_; (with_reducible refine (fix_Round.calls kj16 a0 (wrap64 (a2 + a3)) t121 t122 _ A28.out).mono ?_); rintro e w' ⟨rfl, ⟨nd, rfl⟩⟩; refine ⟨_, rfl, ?_⟩))
                          go_ret
                          exact ⟨by first | rfl | (simp [errW_none, errW_some] <;> rfl) | (simp [*, errW_none, errW_some] <;> rfl), by repeat (first | (with_reducible first | exact HB.out | apply below_alloc | apply pw_below_drewN | apply below_drew1) | exact HB.out)⟩
                        · rw [if_neg c31] at H
                          have c31b0 : (t119 == t121) = false := beq_eq_false_iff_ne.mpr c31
                          have c31b1 : (t119 != t121) = true := bne_iff_ne.mpr c31
                          obtain rfl := Option.some.inj H
                          go_wp2_with (first | ((with_reducible refine gate_callee (f := 10) rfl ?_); refine goesL_ (some 122) rfl rfl Try.func10 (by kernel_rfl) rfl #[.int .i64 t111, .int .i64 a3] rfl (by (try simp only [List.map_toArray, List.map_cons, List.map_nil]); first | done | rfl | (simp only [List.length_drop, List.length_take]; rfl)) ?_; (with_reducible refine (fix_Round.calls kj16 t111 a3 t119 t120 _ A25.out).mono ?_); rintro e w' ⟨rfl, ⟨nd, rfl⟩⟩; refine ⟨_, rfl, ?_⟩) | ((with_reducible refine gate_callee (f := 10) rfl ?_); refine goesL_ (some 139) rfl rfl Try.func10 (by kernel_rfl) rfl #[.int .i64 a0, .int .i64 (wrap64 (a2 + a3))] rfl (by (try simp only [List.map_toArray, List.map_cons, List.map_nil]); first | done | rfl | (simp only [List.length_drop, List.length_take]; rfl)) ?_; (with_reducible refine (fix_Round.calls kj16 a0 (wrap64 (a2 + a3)) t121 t122 _ A28.out).mono ?_); rintro e w' ⟨rfl, ⟨nd, rfl⟩⟩; refine ⟨_, rfl, ?_⟩))
                          go_ret
                          exact ⟨by first | rfl | (simp [errW_none, errW_some] <;> rfl) | (simp [*, errW_none, errW_some] <;> rfl), by repeat (first | (with_reducible first | exact HB.out | apply below_alloc | apply pw_below_drewN | apply below_drew1) | exact HB.out)⟩
                      · rw [if_neg c30] at H
                        have c30b0 : (t122 == 0) = false := beq_eq_false_iff_ne.mpr c30
                        have c30b1 : (t122 != 0) = true := bne_iff_ne.mpr c30
                        obtain rfl := Option.some.inj H
                        go_wp2_with (first | ((with_reducible refine gate_callee (f := 10) rfl ?_); refine goesL_ (some 122) rfl rfl Try.func10 (by kernel_rfl) rfl #[.int .i64 t111, .int .i64 a3] rfl (by (try simp only [List.map_toArray, List.map_cons, List.map_nil]); first | done | rfl | (simp only [List.length_drop, List.length_take]; rfl)) ?_; (with_reducible refine (fix_Round.calls kj16 t111 a3 t119 t120 _ A25.out).mono ?_); rintro e w' ⟨rfl, ⟨nd, rfl⟩⟩; refine ⟨_, rfl, ?_⟩) | ((with_reducible refine gate_callee (f := 10) rfl ?_); refine goesL_ (some 139) rfl rfl Try.func10 (by kernel_rfl) rfl #[.int .i64 a0, .int .i64 (wrap64 (a2 + a3))] rfl (by (try simp only [List.map_toArray, List.map_cons, List.map_nil]); first | done | rfl | (simp only [List.length_drop, List.length_take]; rfl)) ?_; (with_reducible refine (fix_Round.calls kj16 a0 (wrap64 (a2 + a3)) t121 t122 _ A28.out).mono ?_); rintro e w' ⟨rfl, ⟨nd, rfl⟩⟩; refine ⟨_, rfl, ?_⟩))
                        go_ret
                        exact ⟨by first | rfl | (simp [errW_none, errW_some] <;> rfl) | (simp [*, errW_none, errW_some] <;> rfl), by repeat (first | (with_reducible first | exact HB.out | apply below_alloc | apply pw_below_drewN | apply below_drew1) | exact HB.out)⟩
                    · replace c29 := Bool.eq_false_iff.mpr c29
                      subst c29
                      have H1 : (some false) = some r := by rw [if_neg (show ¬ (false = true) by decide)] at H; exact H
                      clear H
                      have H := H1
                      clear H1
                      obtain rfl := Option.some.inj H
                      go_wp2_with (first | ((with_reducible refine gate_callee (f := 10) rfl ?_); refine goesL_ (some 122) rfl rfl Try.func10 (by kernel_rfl) rfl #[.int .i64 t111, .int .i64 a3] rfl (by (try simp only [List.map_toArray, List.map_cons, List.map_nil]); first | done | rfl | (simp only [List.length_drop, List.length_take]; rfl)) ?_; (with_reducible refine (fix_Round.calls kj16 t111 a3 t119 t120 _ A25.out).mono ?_); rintro e w' ⟨rfl, ⟨nd, rfl⟩⟩; refine ⟨_, rfl, ?_⟩) | ((with_reducible refine gate_callee (f := 10) rfl ?_); refine goesL_ (some 139) rfl rfl Try.func10 (by kernel_rfl) rfl #[.int .i64 a0, .int .i64 (wrap64 (a2 + a3))] rfl (by (try simp only [List.map_toArray, List.map_cons, List.map_nil]); first | done | rfl | (simp only [List.length_drop, List.length_take]; rfl)) ?_; (with_reducible refine (fix_Round.calls kj16 a0 (wrap64 (a2 + a3)) t121 t122 _ A28.out).mono ?_); rintro e w' ⟨rfl, ⟨nd, rfl⟩⟩; refine ⟨_, rfl, ?_⟩))
                      go_ret
                      exact ⟨by first | rfl | (simp [errW_none, errW_some] <;> rfl) | (simp [*, errW_none, errW_some] <;> rfl), by repeat (first | (with_reducible first | exact HB.out | apply below_alloc | apply pw_below_drewN | apply below_drew1) | exact HB.out)⟩
                · rw [if_neg c26] at H
                  have c26b0 : (t120 == 0) = false := beq_eq_false_iff_ne.mpr c26
                  have c26b1 : (t120 != 0) = true := bne_iff_ne.mpr c26
                  obtain rfl := Option.some.inj H
                  go_wp2_with (first | ((with_reducible refine gate_callee (f := 10) rfl ?_); refine goesL_ (some 122) rfl rfl Try.func10 (by kernel_rfl) rfl #[.int .i64 t111, .int .i64 a3] rfl (by (try simp only [List.map_toArray, List.map_cons, List.map_nil]); first | done | rfl | (simp only [List.length_drop, List.length_take]; rfl)) ?_; (with_reducible refine (fix_Round.calls kj16 t111 a3 t119 t120 _ A25.out).mono ?_); rintro e w' ⟨rfl, ⟨nd, rfl⟩⟩; refine ⟨_, rfl, ?_⟩))
                  go_ret
                  exact ⟨by first | rfl | (simp [errW_none, errW_some] <;> rfl) | (simp [*, errW_none, errW_some] <;> rfl), by repeat (first | (with_reducible first | exact HB.out | apply below_alloc | apply pw_below_drewN | apply below_drew1) | exact HB.out)⟩
        · rw [if_neg c16] at H
          have c16b0 : (t112 == 0) = false := beq_eq_false_iff_ne.mpr c16
          have c16b1 : (t112 != 0) = true := bne_iff_ne.mpr c16
          by_cases c32 : t110 = true
          · subst c32
            have H1 : (if t114 = t112 then (if t116 = t112 then (some (t118 == t112)) else (some false)) else (some false)) = some r := by rw [if_pos rfl] at H; exact H
            clear H
            have H := H1
            clear H1
            by_cases c33 : t114 = t112
            · rw [if_pos c33] at H
              have c33b0 : (t114 == t112) = true := beq_iff_eq.mpr c33
              have c33b1 : (t114 != t112) = false := bne_eq_false_iff_eq.mpr c33
              clear c33
              by_cases c34 : t116 = t112
              · rw [if_pos c34] at H
                have c34b0 : (t116 == t112) = true := beq_iff_eq.mpr c34
                have c34b1 : (t116 != t112) = false := bne_eq_false_iff_eq.mpr c34
                clear c34
                obtain rfl := Option.some.inj H
                go_wp2_with (first | ((with_reducible refine gate_callee (f := 10) rfl ?_); refine goesL_ (some 42) rfl rfl Try.func10 (by kernel_rfl) rfl #[.int .i64 a0, .int .i64 a2] rfl (by (try simp only [List.map_toArray, List.map_cons, List.map_nil]); first | done | rfl | (simp only [List.length_drop, List.length_take]; rfl)) ?_; (with_reducible refine (fix_Round.calls kj5 a0 a2 t111 t112 _ A12.out).mono ?_); rintro e w' ⟨rfl, ⟨nd, rfl⟩⟩; refine ⟨_, rfl, ?_⟩) | ((with_reducible refine gate_callee (f := 10) rfl ?_); refine goesL_ (some 48) rfl rfl Try.func10 (by kernel_rfl) rfl #[.int .i64 a1, .int .i64 a2] rfl (by (try simp only [List.map_toArray, List.map_cons, List.map_nil]); first | done | rfl | (simp only [List.length_drop, List.length_take]; rfl)) ?_; (with_reducible refine (fix_Round.calls kj5 a1 a2 t113 t114 _ A13.out).mono ?_); rintro e w' ⟨rfl, ⟨nd, rfl⟩⟩; refine ⟨_, rfl, ?_⟩) | ((with_reducible refine gate_callee (f := 10) rfl ?_); refine goesL_ (some 56) rfl rfl Try.func10 (by kernel_rfl) rfl #[.int .i64 (wrap64 (a0 + a1)), .int .i64 a2] rfl (by (try simp only [List.map_toArray, List.map_cons, List.map_nil]); first | done | rfl | (simp only [List.length_drop, List.length_take]; rfl)) ?_; (with_reducible refine (fix_Round.calls kj5 (wrap64 (a0 + a1)) a2 t115 t116 _ A14.out).mono ?_); rintro e w' ⟨rfl, ⟨nd, rfl⟩⟩; refine ⟨_, rfl, ?_⟩) | ((with_reducible refine gate_callee (f := 10) rfl ?_); refine goesL_ (some 63) rfl rfl Try.func10 (by kernel_rfl) rfl #[.int .i64 (wrap64 (-a0)), .int .i64 a2] rfl (by (try simp only [List.map_toArray, List.map_cons, List.map_nil]); first | done | rfl | (simp only [List.length_drop, List.length_take]; rfl)) ?_; (with_reducible refine (fix_Round.calls kj5 (wrap64 (-a0)) a2 t117 t118 _ A15.out).mono ?_); rintro e w' ⟨rfl, ⟨nd, rfl⟩⟩; refine ⟨_, rfl, ?_⟩))
                go_ret
                exact ⟨by first | rfl | (simp [errW_none, errW_some] <;> rfl) | (simp [*, errW_none, errW_some] <;> rfl), by repeat (first | (with_reducible first | exact HB.out | apply below_alloc | apply pw_below_drewN | apply below_drew1) | exact HB.out)⟩
              · rw [if_neg c34] at H
                have c34b0 : (t116 == t112) = false := beq_eq_false_iff_ne.mpr c34
                have c34b1 : (t116 != t112) = true := bne_iff_ne.mpr c34
                obtain rfl := Option.some.inj H
                go_wp2_with (first | ((with_reducible refine gate_callee (f := 10) rfl ?_); refine goesL_ (some 42) rfl rfl Try.func10 (by kernel_rfl) rfl #[.int .i64 a0, .int .i64 a2] rfl (by (try simp only [List.map_toArray, List.map_cons, List.map_nil]); first | done | rfl | (simp only [List.length_drop, List.length_take]; rfl)) ?_; (with_reducible refine (fix_Round.calls kj5 a0 a2 t111 t112 _ A12.out).mono ?_); rintro e w' ⟨rfl, ⟨nd, rfl⟩⟩; refine ⟨_, rfl, ?_⟩) | ((with_reducible refine gate_callee (f := 10) rfl ?_); refine goesL_ (some 48) rfl rfl Try.func10 (by kernel_rfl) rfl #[.int .i64 a1, .int .i64 a2] rfl (by (try simp only [List.map_toArray, List.map_cons, List.map_nil]); first | done | rfl | (simp only [List.length_drop, List.length_take]; rfl)) ?_; (with_reducible refine (fix_Round.calls kj5 a1 a2 t113 t114 _ A13.out).mono ?_); rintro e w' ⟨rfl, ⟨nd, rfl⟩⟩; refine ⟨_, rfl, ?_⟩) | ((with_reducible refine gate_callee (f := 10) rfl ?_); refine goesL_ (some 56) rfl rfl Try.func10 (by kernel_rfl) rfl #[.int .i64 (wrap64 (a0 + a1)), .int .i64 a2] rfl (by (try simp only [List.map_toArray, List.map_cons, List.map_nil]); first | done | rfl | (simp only [List.length_drop, List.length_take]; rfl)) ?_; (with_reducible refine (fix_Round.calls kj5 (wrap64 (a0 + a1)) a2 t115 t116 _ A14.out).mono ?_); rintro e w' ⟨rfl, ⟨nd, rfl⟩⟩; refine ⟨_, rfl, ?_⟩) | ((with_reducible refine gate_callee (f := 10) rfl ?_); refine goesL_ (some 63) rfl rfl Try.func10 (by kernel_rfl) rfl #[.int .i64 (wrap64 (-a0)), .int .i64 a2] rfl (by (try simp only [List.map_toArray, List.map_cons, List.map_nil]); first | done | rfl | (simp only [List.length_drop, List.length_take]; rfl)) ?_; (with_reducible refine (fix_Round.calls kj5 (wrap64 (-a0)) a2 t117 t118 _ A15.out).mono ?_); rintro e w' ⟨rfl, ⟨nd, rfl⟩⟩; refine ⟨_, rfl, ?_⟩))
                go_ret
                exact ⟨by first | rfl | (simp [errW_none, errW_some] <;> rfl) | (simp [*, errW_none, errW_some] <;> rfl), by repeat (first | (with_reducible first | exact HB.out | apply below_alloc | apply pw_below_drewN | apply below_drew1) | exact HB.out)⟩
            · rw [if_neg c33] at H
              have c33b0 : (t114 == t112) = false := beq_eq_false_iff_ne.mpr c33
              have c33b1 : (t114 != t112) = true := bne_iff_ne.mpr c33
              obtain rfl := Option.some.inj H
              go_wp2_with (first | ((with_reducible refine gate_callee (f := 10) rfl ?_); refine goesL_ (some 42) rfl rfl Try.func10 (by kernel_rfl) rfl #[.int .i64 a0, .int .i64 a2] rfl (by (try simp only [List.map_toArray, List.map_cons, List.map_nil]); first | done | rfl | (simp only [List.length_drop, List.length_take]; rfl)) ?_; (with_reducible refine (fix_Round.calls kj5 a0 a2 t111 t112 _ A12.out).mono ?_); rintro e w' ⟨rfl, ⟨nd, rfl⟩⟩; refine ⟨_, rfl, ?_⟩) | ((with_reducible refine gate_callee (f := 10) rfl ?_); refine goesL_ (some 48) rfl rfl Try.func10 (by kernel_rfl) rfl #[.int .i64 a1, .int .i64 a2] rfl (by (try simp only [List.map_toArray, List.map_cons, List.map_nil]); first | done | rfl | (simp only [List.length_drop, List.length_take]; rfl)) ?_; (with_reducible refine (fix_Round.calls kj5 a1 a2 t113 t114 _ A13.out).mono ?_); rintro e w' ⟨rfl, ⟨nd, rfl⟩⟩; refine ⟨_, rfl, ?_⟩) | ((with_reducible refine gate_callee (f := 10) rfl ?_); refine goesL_ (some 56) rfl rfl Try.func10 (by kernel_rfl) rfl #[.int .i64 (wrap64 (a0 + a1)), .int .i64 a2] rfl (by (try simp only [List.map_toArray, List.map_cons, List.map_nil]); first | done | rfl | (simp only [List.length_drop, List.length_take]; rfl)) ?_; (with_reducible refine (fix_Round.calls kj5 (wrap64 (a0 + a1)) a2 t115 t116 _ A14.out).mono ?_); rintro e w' ⟨rfl, ⟨nd, rfl⟩⟩; refine ⟨_, rfl, ?_⟩) | ((with_reducible refine gate_callee (f := 10) rfl ?_); refine goesL_ (some 63) rfl rfl Try.func10 (by kernel_rfl) rfl #[.int .i64 (wrap64 (-a0)), .int .i64 a2] rfl (by (try simp only [List.map_toArray, List.map_cons, List.map_nil]); first | done | rfl | (simp only [List.length_drop, List.length_take]; rfl)) ?_; (with_reducible refine (fix_Round.calls kj5 (wrap64 (-a0)) a2 t117 t118 _ A15.out).mono ?_); rintro e w' ⟨rfl, ⟨nd, rfl⟩⟩; refine ⟨_, rfl, ?_⟩))
              go_ret
              exact ⟨by first | rfl | (simp [errW_none, errW_some] <;> rfl) | (simp [*, errW_none, errW_some] <;> rfl), by repeat (first | (with_reducible first | exact HB.out | apply below_alloc | apply pw_below_drewN | apply below_drew1) | exact HB.out)⟩
          · replace c32 := Bool.eq_false_iff.mpr c32
            subst c32
            have H1 : (some false) = some r := by rw [if_neg (show ¬ (false = true) by decide)] at H; exact H
            clear H
            have H := H1
            clear H1
            obtain rfl := Option.some.inj H
            go_wp2_with (first | ((with_reducible refine gate_callee (f := 10) rfl ?_); refine goesL_ (some 42) rfl rfl Try.func10 (by kernel_rfl) rfl #[.int .i64 a0, .int .i64 a2] rfl (by (try simp only [List.map_toArray, List.map_cons, List.map_nil]); first | done | rfl | (simp only [List.length_drop, List.length_take]; rfl)) ?_; (with_reducible refine (fix_Round.calls kj5 a0 a2 t111 t112 _ A12.out).mono ?_); rintro e w' ⟨rfl, ⟨nd, rfl⟩⟩; refine ⟨_, rfl, ?_⟩) | ((with_reducible refine gate_callee (f := 10) rfl ?_); refine goesL_ (some 48) rfl rfl Try.func10 (by kernel_rfl) rfl #[.int .i64 a1, .int .i64 a2] rfl (by (try simp only [List.map_toArray, List.map_cons, List.map_nil]); first | done | rfl | (simp only [List.length_drop, List.length_take]; rfl)) ?_; (with_reducible refine (fix_Round.calls kj5 a1 a2 t113 t114 _ A13.out).mono ?_); rintro e w' ⟨rfl, ⟨nd, rfl⟩⟩; refine ⟨_, rfl, ?_⟩) | ((with_reducible refine gate_callee (f := 10) rfl ?_); refine goesL_ (some 56) rfl rfl Try.func10 (by kernel_rfl) rfl #[.int .i64 (wrap64 (a0 + a1)), .int .i64 a2] rfl (by (try simp only [List.map_toArray, List.map_cons, List.map_nil]); first | done | rfl | (simp only [List.length_drop, List.length_take]; rfl)) ?_; (with_reducible refine (fix_Round.calls kj5 (wrap64 (a0 + a1)) a2 t115 t116 _ A14.out).mono ?_); rintro e w' ⟨rfl, ⟨nd, rfl⟩⟩; refine ⟨_, rfl, ?_⟩) | ((with_reducible refine gate_callee (f := 10) rfl ?_); refine goesL_ (some 63) rfl rfl Try.func10 (by kernel_rfl) rfl #[.int .i64 (wrap64 (-a0)), .int .i64 a2] rfl (by (try simp only [List.map_toArray, List.map_cons, List.map_nil]); first | done | rfl | (simp only [List.length_drop, List.length_take]; rfl)) ?_; (with_reducible refine (fix_Round.calls kj5 (wrap64 (-a0)) a2 t117 t118 _ A15.out).mono ?_); rintro e w' ⟨rfl, ⟨nd, rfl⟩⟩; refine ⟨_, rfl, ?_⟩))
            go_ret
            exact ⟨by first | rfl | (simp [errW_none, errW_some] <;> rfl) | (simp [*, errW_none, errW_some] <;> rfl), by repeat (first | (with_reducible first | exact HB.out | apply below_alloc | apply pw_below_drewN | apply below_drew1) | exact HB.out)⟩

/-- THE ONE PURE STATEMENT of reedpipelaw03_FixSums: yours. -/
def reedpipelaw03_FixSums.Pure : Prop := ∀ (a0 : Int) (a1 : Int) (a2 : Int) (a3 : Int), (Lit.int .i64 a0).wf = true → (Lit.int .i64 a1).wf = true → (Lit.int .i64 a2).wf = true → (Lit.int .i64 a3).wf = true → ∃ k, reedpipelaw03_FixSums.f k a0 a1 a2 a3 = some true
theorem reedpipelaw03_FixSums.walk (P : reedpipelaw03_FixSums.Pure) (a0 : Int) (a1 : Int) (a2 : Int) (a3 : Int) (w : World) (w0 : (Lit.int .i64 a0).wf = true) (w1 : (Lit.int .i64 a1).wf = true) (w2 : (Lit.int .i64 a2).wf = true) (w3 : (Lit.int .i64 a3).wf = true) :
    Calls Try.prog 4 #[.int .i64 a0, .int .i64 a1, .int .i64 a2, .int .i64 a3] w fun e w' => e = .returned (.bool true) ∧ Below w.heap.size w w' := by
  obtain ⟨k, h⟩ := P a0 a1 a2 a3 w0 w1 w2 w3
  refine (reedpipelaw03_FixSums.calls k a0 a1 a2 a3 true w h).mono ?_
  rintro e w' ⟨rfl, hd⟩
  exact ⟨rfl, hd⟩

end Go.Proofs.Ytehhpaellcffmaa.PrintF
