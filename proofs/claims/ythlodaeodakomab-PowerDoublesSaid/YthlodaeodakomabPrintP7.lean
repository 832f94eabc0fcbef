-- Written by a program of this session's own (a turned copy of the kit's print); Lean checks it.
import Derived.Test.YthlodaeodakomabPrintP0
import Derived.Test.YthlodaeodakomabPrintP1
import Derived.Test.YthlodaeodakomabPrintP6
namespace Go.Proofs.Ythlodaeodakomab.PrintP
open Go.RowKit Go.Proofs.Ythlodaeodakomab Go.Proofs.YthlodaeodakomabW.PrintWords Go.Proofs.YthlodaeodakomabW.PrintLast Go.Proofs.YthlodaeodakomabW.PrintMore
attribute [local go_sem] max2_int min2_int max_two min_two max_three min_three max_four min_four   -- for this text's walks alone
set_option linter.unusedVariables false
set_option linter.unusedSimpArgs false

/-! ### reedpipelaw07_PowerDoubles: function 4 -/
mutual
def reedpipelaw07_PowerDoubles.j0 : Nat → Int → Int → Bool → Int → Int → Bool → Option (Bool)
  | 0, _, _, _, _, _, _ => none
  | k + 1, x0, x1, x5, x6, x8, x32 => if x32 = true then (some x5) else ((reedpipelaw07_far.f x8 0).bind fun t122 => (if t122 < 268435455 then (if (wrap64 (x8 - (wrap64 (2 * x6)))) > 1 then (reedpipelaw07_PowerDoubles.j1 k x0 x1 x5 x6 true) else (reedpipelaw07_PowerDoubles.j1 k x0 x1 x5 x6 (decide ((wrap64 (x8 - (wrap64 (2 * x6)))) < (-1))))) else (reedpipelaw07_PowerDoubles.j1 k x0 x1 x5 x6 false)))
def reedpipelaw07_PowerDoubles.j1 : Nat → Int → Int → Bool → Int → Bool → Option (Bool)
  | 0, _, _, _, _, _ => none
  | k + 1, x0, x1, x5, x6, x48 => if x48 = true then (some false) else ((power_Line.f (wrap64 (8 * x0)) x1).bind fun bt123 => (if bt123.2 = 0 then ((reedpipelaw07_far.f bt123.1 0).bind fun t125 => (reedpipelaw07_PowerDoubles.j2 k x0 x5 x6 bt123.1 (t125 == 268435455))) else (reedpipelaw07_PowerDoubles.j2 k x0 x5 x6 bt123.1 true)))
def reedpipelaw07_PowerDoubles.j2 : Nat → Int → Bool → Int → Int → Bool → Option (Bool)
  | 0, _, _, _, _, _ => none
  | k + 1, x0, x5, x6, x11, x62 => if x62 = true then (some x5) else (if x5 = true then ((reedpipelaw07_far.f x11 (wrap64 (16 * x6))).bind fun t126 => ((reedpipelaw07_far.f x11 0).bind fun t127 => ((reedpipelaw07_far.f x11 0).bind fun t128 => ((reedpipelaw07_far.f x0 0).bind fun t129 => (if (mx t129 1) = 0 then (none) else (some (decide (t126 ≤ (wrap64 ((wrap64 (16 + (wrap64 (Int.tdiv t127 4096)))) + (wrap64 (Int.tdiv (wrap64 (Int.tdiv t128 (mx t129 1))) 1024)))))))))))) else (some false))
end
def reedpipelaw07_PowerDoubles.f (k : Nat) (a0 : Int) (a1 : Int) : Option (Bool) := (reedpipelaw07_alive.f).bind fun t117 => ((power_Line.f a0 a1).bind fun bt118 => ((power_Line.f a0 (wrap64 (a1 + 4))).bind fun bt120 => (if bt118.2 = 0 then (reedpipelaw07_PowerDoubles.j0 k a0 a1 t117 bt118.1 bt120.1 (bt120.2 != 0)) else (reedpipelaw07_PowerDoubles.j0 k a0 a1 t117 bt118.1 bt120.1 true))))
theorem reedpipelaw07_PowerDoubles.mono_l : ∀ k, (∀ y0 y1 y2 y3 y4 y5, LeO (reedpipelaw07_PowerDoubles.j0 k y0 y1 y2 y3 y4 y5) (reedpipelaw07_PowerDoubles.j0 (k + 1) y0 y1 y2 y3 y4 y5)) ∧ (∀ y0 y1 y2 y3 y4, LeO (reedpipelaw07_PowerDoubles.j1 k y0 y1 y2 y3 y4) (reedpipelaw07_PowerDoubles.j1 (k + 1) y0 y1 y2 y3 y4)) ∧ (∀ y0 y1 y2 y3 y4, LeO (reedpipelaw07_PowerDoubles.j2 k y0 y1 y2 y3 y4) (reedpipelaw07_PowerDoubles.j2 (k + 1) y0 y1 y2 y3 y4))
  | 0 => ⟨fun _ _ _ _ _ _ r h => by simp [reedpipelaw07_PowerDoubles.j0] at h, fun _ _ _ _ _ r h => by simp [reedpipelaw07_PowerDoubles.j1] at h, fun _ _ _ _ _ r h => by simp [reedpipelaw07_PowerDoubles.j2] at h⟩
  | k + 1 => by
    obtain ⟨ih0, ih1, ih2⟩ := reedpipelaw07_PowerDoubles.mono_l k
    refine ⟨?_, ?_, ?_⟩
    · intro y0 y1 y2 y3 y4 y5
      unfold reedpipelaw07_PowerDoubles.j0
      repeat' first
      | (with_reducible exact ih0 _ _ _ _ _ _)
      | (with_reducible exact ih1 _ _ _ _ _)
      | (with_reducible exact ih2 _ _ _ _ _)
      | (with_reducible exact LeO.refl _)
      | (with_reducible exact LeO.none _)
      | (with_reducible refine LeO.ite ?_ ?_)
      | (with_reducible refine LeO.bind ?_ (fun _ => ?_))
      | exact ih0 _ _ _ _ _ _
      | exact ih1 _ _ _ _ _
      | exact ih2 _ _ _ _ _
      | exact LeO.none _
      | refine LeO.ite ?_ ?_
      | refine LeO.bind ?_ (fun _ => ?_)
    · intro y0 y1 y2 y3 y4
      unfold reedpipelaw07_PowerDoubles.j1
      repeat' first
      | (with_reducible exact ih0 _ _ _ _ _ _)
      | (with_reducible exact ih1 _ _ _ _ _)
      | (with_reducible exact ih2 _ _ _ _ _)
      | (with_reducible exact LeO.refl _)
      | (with_reducible exact LeO.none _)
      | (with_reducible refine LeO.ite ?_ ?_)
      | (with_reducible refine LeO.bind ?_ (fun _ => ?_))
      | exact ih0 _ _ _ _ _ _
      | exact ih1 _ _ _ _ _
      | exact ih2 _ _ _ _ _
      | exact LeO.none _
      | refine LeO.ite ?_ ?_
      | refine LeO.bind ?_ (fun _ => ?_)
    · intro y0 y1 y2 y3 y4
      unfold reedpipelaw07_PowerDoubles.j2
      repeat' first
      | (with_reducible exact ih0 _ _ _ _ _ _)
      | (with_reducible exact ih1 _ _ _ _ _)
      | (with_reducible exact ih2 _ _ _ _ _)
      | (with_reducible exact LeO.refl _)
      | (with_reducible exact LeO.none _)
      | (with_reducible refine LeO.ite ?_ ?_)
      | (with_reducible refine LeO.bind ?_ (fun _ => ?_))
      | exact ih0 _ _ _ _ _ _
      | exact ih1 _ _ _ _ _
      | exact ih2 _ _ _ _ _
      | exact LeO.none _
      | refine LeO.ite ?_ ?_
      | refine LeO.bind ?_ (fun _ => ?_)
theorem reedpipelaw07_PowerDoubles.mono : ∀ a0 a1 k, LeO (reedpipelaw07_PowerDoubles.f k a0 a1) (reedpipelaw07_PowerDoubles.f (k + 1) a0 a1) := by
  intro a0 a1 k
  obtain ⟨ih0, ih1, ih2⟩ := reedpipelaw07_PowerDoubles.mono_l k
  unfold reedpipelaw07_PowerDoubles.f
  repeat' first
      | (with_reducible exact ih0 _ _ _ _ _ _)
      | (with_reducible exact ih1 _ _ _ _ _)
      | (with_reducible exact ih2 _ _ _ _ _)
      | (with_reducible exact LeO.refl _)
      | (with_reducible exact LeO.none _)
      | (with_reducible refine LeO.ite ?_ ?_)
      | (with_reducible refine LeO.bind ?_ (fun _ => ?_))
      | exact ih0 _ _ _ _ _ _
      | exact ih1 _ _ _ _ _
      | exact ih2 _ _ _ _ _
      | exact LeO.none _
      | refine LeO.ite ?_ ?_
      | refine LeO.bind ?_ (fun _ => ?_)
set_option maxHeartbeats 8000000 in
set_option maxRecDepth 100000 in
theorem reedpipelaw07_PowerDoubles.calls (k : Nat) (a0 : Int) (a1 : Int) (r : Bool) (w : World) (h : reedpipelaw07_PowerDoubles.f k a0 a1 = some r) :
    Calls Try.prog 4 #[.int .i64 a0, .int .i64 a1] w fun e w' => e = .returned (.bool r) ∧ Below w.heap.size w w' := by
  have HB := Aside0.mk (Below.refl w.heap.size w)
  have H : ((reedpipelaw07_alive.f).bind fun t117 => ((power_Line.f a0 a1).bind fun bt118 => ((power_Line.f a0 (wrap64 (a1 + 4))).bind fun bt120 => (if bt118.2 = 0 then (reedpipelaw07_PowerDoubles.j0 k a0 a1 t117 bt118.1 bt120.1 (bt120.2 != 0)) else (reedpipelaw07_PowerDoubles.j0 k a0 a1 t117 bt118.1 bt120.1 true))))) = some r := h
  clear h
  replace H := Option.bind_eq_some_iff.mp H
  obtain ⟨t117, A30, H⟩ := H
  replace H : ((power_Line.f a0 a1).bind fun bt118 => ((power_Line.f a0 (wrap64 (a1 + 4))).bind fun bt120 => (if bt118.2 = 0 then (reedpipelaw07_PowerDoubles.j0 k a0 a1 t117 bt118.1 bt120.1 (bt120.2 != 0)) else (reedpipelaw07_PowerDoubles.j0 k a0 a1 t117 bt118.1 bt120.1 true)))) = some r := H
  have A3 := Aside0.mk A30
  clear A30
  replace H := Option.bind_eq_some_iff.mp H
  obtain ⟨⟨t118, t119⟩, A40, H⟩ := H
  replace H : ((power_Line.f a0 (wrap64 (a1 + 4))).bind fun bt120 => (if t119 = 0 then (reedpipelaw07_PowerDoubles.j0 k a0 a1 t117 t118 bt120.1 (bt120.2 != 0)) else (reedpipelaw07_PowerDoubles.j0 k a0 a1 t117 t118 bt120.1 true))) = some r := H
  have A4 := Aside0.mk A40
  clear A40
  replace H := Option.bind_eq_some_iff.mp H
  obtain ⟨⟨t120, t121⟩, A50, H⟩ := H
  replace H : (if t119 = 0 then (reedpipelaw07_PowerDoubles.j0 k a0 a1 t117 t118 t120 (t121 != 0)) else (reedpipelaw07_PowerDoubles.j0 k a0 a1 t117 t118 t120 true)) = some r := H
  have A5 := Aside0.mk A50
  clear A50
  have HC6 := Aside0.mk H
  clear H
  go_enter Try.func4, Try.ntmps4
  go_upto_region 4 with (first | ((with_reducible refine gate_callee (f := 8) rfl ?_); refine goesL_ (some 13) rfl rfl Try.func8 (by kernel_rfl) rfl #[] rfl (by (try simp only [List.map_toArray, List.map_cons, List.map_nil]); first | done | rfl | (simp only [List.length_drop, List.length_take]; rfl)) ?_; (with_reducible refine (reedpipelaw07_alive.calls  t117 _ A3.out).mono ?_); rintro e w7 ⟨rfl, hb⟩; refine ⟨_, rfl, ?_⟩; have n0_ := Aside0.mk (below_step (by repeat (first | (with_reducible first | exact HB.out | apply below_alloc | apply pw_below_drewN | apply below_drew1) | exact HB.out)) hb); clear HB; have HB := n0_; clear n0_; (try clear hb); (try clear hb2); (try clear hk); (try clear hi)) | ((with_reducible refine gate_callee (f := 9) rfl ?_); refine goesL_ (some 17) rfl rfl Try.func9 (by kernel_rfl) rfl #[.int .i64 a0, .int .i64 a1] rfl (by (try simp only [List.map_toArray, List.map_cons, List.map_nil]); first | done | rfl | (simp only [List.length_drop, List.length_take]; rfl)) ?_; (with_reducible refine (power_Line.calls a0 a1 t118 t119 _ A4.out).mono ?_); rintro e w8 ⟨rfl, hb⟩; refine ⟨_, rfl, ?_⟩; have n0_ := Aside0.mk (below_step (by repeat (first | (with_reducible first | exact HB.out | apply below_alloc | apply pw_below_drewN | apply below_drew1) | exact HB.out)) hb); clear HB; have HB := n0_; clear n0_; (try clear hb); (try clear hb2); (try clear hk); (try clear hi)) | ((with_reducible refine gate_callee (f := 9) rfl ?_); refine goesL_ (some 24) rfl rfl Try.func9 (by kernel_rfl) rfl #[.int .i64 a0, .int .i64 (wrap64 (a1 + 4))] rfl (by (try simp only [List.map_toArray, List.map_cons, List.map_nil]); first | done | rfl | (simp only [List.length_drop, List.length_take]; rfl)) ?_; (with_reducible refine (power_Line.calls a0 (wrap64 (a1 + 4)) t120 t121 _ A5.out).mono ?_); rintro e w9 ⟨rfl, hb⟩; refine ⟨_, rfl, ?_⟩; have n0_ := Aside0.mk (below_step (by repeat (first | (with_reducible first | exact HB.out | apply below_alloc | apply pw_below_drewN | apply below_drew1) | exact HB.out)) hb); clear HB; have HB := n0_; clear n0_; (try clear hb); (try clear hb2); (try clear hk); (try clear hi)))
  (try simp only [Act.put, List.setIfInBounds_toArray, List.set_cons_zero, List.set_cons_succ])
  go_cut [32] (fun v32 wc => ∃ (kq : Nat) (x32_5 : Bool), v32 = .bool x32_5 ∧ Aside0 (reedpipelaw07_PowerDoubles.j0 kq a0 a1 t117 t118 t120 x32_5 = some r) ∧ Aside0 (kq ≤ k) ∧ Aside0 (Below w.heap.size w wc))
  case first =>
    have H := HC6.out
    clear HC6
    by_cases c10 : t119 = 0
    · rw [if_pos c10] at H
      have c10b0 : (t119 == 0) = true := beq_iff_eq.mpr c10
      have c10b1 : (t119 != 0) = false := bne_eq_false_iff_eq.mpr c10
      clear c10
      (first | rw [c10b0] | (simp only [i64_w, i32_w]; rw [c10b0]) | skip)
      have H' := Aside0.mk H
      clear H
      go_wp2
      go_meet
      case rel => exact ⟨_, ((t121 != 0)), (by first | rfl | (simp; done) | (simp [*]; done)), H', ⟨by first | omega | exact Nat.le_refl _⟩, ⟨by repeat (first | (with_reducible first | exact HB.out | apply below_alloc | apply pw_below_drewN | apply below_drew1) | exact HB.out)⟩⟩
    · rw [if_neg c10] at H
      have c10b0 : (t119 == 0) = false := beq_eq_false_iff_ne.mpr c10
      have c10b1 : (t119 != 0) = true := bne_iff_ne.mpr c10
      (first | rw [c10b0] | (simp only [i64_w, i32_w]; rw [c10b0]) | skip)
      have H' := Aside0.mk H
      clear H
      go_wp2
      go_meet
      case rel => exact ⟨_, (true), (by first | rfl | (simp; done) | (simp [*]; done)), H', ⟨by first | omega | exact Nat.le_refl _⟩, ⟨by repeat (first | (with_reducible first | exact HB.out | apply below_alloc | apply pw_below_drewN | apply below_drew1) | exact HB.out)⟩⟩
  case rest =>
    clear HC6
    try clear c1
    try clear p2
    try clear c4
    try clear p6
    try clear c8
    try clear c9
    try clear c10
    try clear c10b0
    try clear c10b1
    obtain ⟨kq, x32_5, rfl, HA, HJ5, HB⟩ := hcut
    cases kq with
    | zero => exact absurd HA.out (by simp [reedpipelaw07_PowerDoubles.j0])
    | succ kj5 =>
      have H := HA.out
      clear HA
      simp only [reedpipelaw07_PowerDoubles.j0] at H
      by_cases c11 : x32_5 = true
      · subst c11
        have H1 : (some t117) = some r := by rw [if_pos rfl] at H; exact H
        clear H
        have H := H1
        clear H1
        obtain rfl := Option.some.inj H
        go_wp2
        go_ret
        exact ⟨by first | rfl | (simp [errW_none, errW_some] <;> rfl) | (simp [*, errW_none, errW_some] <;> rfl), by repeat (first | (with_reducible first | exact HB.out | apply below_alloc | apply pw_below_drewN | apply below_drew1) | exact HB.out)⟩
      · replace c11 := Bool.eq_false_iff.mpr c11
        subst c11
        have H1 : ((reedpipelaw07_far.f t120 0).bind fun t122 => (if t122 < 268435455 then (if (wrap64 (t120 - (wrap64 (2 * t118)))) > 1 then (reedpipelaw07_PowerDoubles.j1 kj5 a0 a1 t117 t118 true) else (reedpipelaw07_PowerDoubles.j1 kj5 a0 a1 t117 t118 (decide ((wrap64 (t120 - (wrap64 (2 * t118)))) < (-1))))) else (reedpipelaw07_PowerDoubles.j1 kj5 a0 a1 t117 t118 false))) = some r := by rw [if_neg (show ¬ (false = true) by decide)] at H; exact H
        clear H
        have H := H1
        clear H1
        have HC12 := Aside0.mk H
        clear H
        go_upto_region 7 with (fail)
        go_cut [48] (fun v48 wc => ∃ (kq : Nat) (x48_11 : Bool), v48 = .bool x48_11 ∧ Aside0 (reedpipelaw07_PowerDoubles.j1 kq a0 a1 t117 t118 x48_11 = some r) ∧ Aside0 (kq ≤ kj5) ∧ Aside0 (Below w.heap.size w wc))
        case first =>
          have H := HC12.out
          clear HC12
          replace H := Option.bind_eq_some_iff.mp H
          obtain ⟨t122, A130, H⟩ := H
          replace H : (if t122 < 268435455 then (if (wrap64 (t120 - (wrap64 (2 * t118)))) > 1 then (reedpipelaw07_PowerDoubles.j1 kj5 a0 a1 t117 t118 true) else (reedpipelaw07_PowerDoubles.j1 kj5 a0 a1 t117 t118 (decide ((wrap64 (t120 - (wrap64 (2 * t118)))) < (-1))))) else (reedpipelaw07_PowerDoubles.j1 kj5 a0 a1 t117 t118 false)) = some r := H
          have A13 := Aside0.mk A130
          clear A130
          by_cases c14 : t122 < 268435455
          · rw [if_pos c14] at H
            have c14b0 : decide (t122 < 268435455) = true := decide_eq_true c14
            clear c14
            (first | rw [c14b0] | (simp only [i64_w, i32_w]; rw [c14b0]) | skip)
            by_cases c15 : (wrap64 (t120 - (wrap64 (2 * t118)))) > 1
            · rw [if_pos c15] at H
              have c15b0 : decide (1 < (wrap64 (t120 - (wrap64 (2 * t118))))) = true := decide_eq_true c15
              clear c15
              have H' := Aside0.mk H
              clear H
              go_wp2_with (first | ((with_reducible refine gate_callee (f := 10) rfl ?_); refine goesL_ (some 39) rfl rfl Try.func10 (by kernel_rfl) rfl #[.int .i64 t120, .int .i64 0] rfl (by (try simp only [List.map_toArray, List.map_cons, List.map_nil]); first | done | rfl | (simp only [List.length_drop, List.length_take]; rfl)) ?_; (with_reducible refine (reedpipelaw07_far.calls t120 0 t122 _ A13.out).mono ?_); rintro e w16 ⟨rfl, hb⟩; refine ⟨_, rfl, ?_⟩; have n0_ := Aside0.mk (below_step (by repeat (first | (with_reducible first | exact HB.out | apply below_alloc | apply pw_below_drewN | apply below_drew1) | exact HB.out)) hb); clear HB; have HB := n0_; clear n0_; (try clear hb); (try clear hb2); (try clear hk); (try clear hi)))
              go_meet
              case rel => exact ⟨_, (true), (by first | rfl | (simp; done) | (simp [*]; done)), H', ⟨by have := HJ5.out; first | omega | exact Nat.le_refl _⟩, ⟨by repeat (first | (with_reducible first | exact HB.out | apply below_alloc | apply pw_below_drewN | apply below_drew1) | exact HB.out)⟩⟩
            · rw [if_neg c15] at H
              have c15b0 : decide (1 < (wrap64 (t120 - (wrap64 (2 * t118))))) = false := decide_eq_false c15
              clear c15
              have H' := Aside0.mk H
              clear H
              go_wp2_with (first | ((with_reducible refine gate_callee (f := 10) rfl ?_); refine goesL_ (some 39) rfl rfl Try.func10 (by kernel_rfl) rfl #[.int .i64 t120, .int .i64 0] rfl (by (try simp only [List.map_toArray, List.map_cons, List.map_nil]); first | done | rfl | (simp only [List.length_drop, List.length_take]; rfl)) ?_; (with_reducible refine (reedpipelaw07_far.calls t120 0 t122 _ A13.out).mono ?_); rintro e w17 ⟨rfl, hb⟩; refine ⟨_, rfl, ?_⟩; have n0_ := Aside0.mk (below_step (by repeat (first | (with_reducible first | exact HB.out | apply below_alloc | apply pw_below_drewN | apply below_drew1) | exact HB.out)) hb); clear HB; have HB := n0_; clear n0_; (try clear hb); (try clear hb2); (try clear hk); (try clear hi)))
              go_meet
              case rel => exact ⟨_, (decide ((wrap64 (t120 - (wrap64 (2 * t118)))) < (-1))), (by first | rfl | (simp; done) | (simp [*]; done)), H', ⟨by have := HJ5.out; first | omega | exact Nat.le_refl _⟩, ⟨by repeat (first | (with_reducible first | exact HB.out | apply below_alloc | apply pw_below_drewN | apply below_drew1) | exact HB.out)⟩⟩
          · rw [if_neg c14] at H
            have c14b0 : decide (t122 < 268435455) = false := decide_eq_false c14
            clear c14
            (first | rw [c14b0] | (simp only [i64_w, i32_w]; rw [c14b0]) | skip)
            have H' := Aside0.mk H
            clear H
            go_wp2_with (first | ((with_reducible refine gate_callee (f := 10) rfl ?_); refine goesL_ (some 39) rfl rfl Try.func10 (by kernel_rfl) rfl #[.int .i64 t120, .int .i64 0] rfl (by (try simp only [List.map_toArray, List.map_cons, List.map_nil]); first | done | rfl | (simp only [List.length_drop, List.length_take]; rfl)) ?_; (with_reducible refine (reedpipelaw07_far.calls t120 0 t122 _ A13.out).mono ?_); rintro e w18 ⟨rfl, hb⟩; refine ⟨_, rfl, ?_⟩; have n0_ := Aside0.mk (below_step (by repeat (first | (with_reducible first | exact HB.out | apply below_alloc | apply pw_below_drewN | apply below_drew1) | exact HB.out)) hb); clear HB; have HB := n0_; clear n0_; (try clear hb); (try clear hb2); (try clear hk); (try clear hi)))
            go_meet
            case rel => exact ⟨_, (false), (by first | rfl | (simp; done) | (simp [*]; done)), H', ⟨by have := HJ5.out; first | omega | exact Nat.le_refl _⟩, ⟨by repeat (first | (with_reducible first | exact HB.out | apply below_alloc | apply pw_below_drewN | apply below_drew1) | exact HB.out)⟩⟩
        case rest =>
          clear HC12
          try clear c1
          try clear p2
          try clear c4
          try clear p6
          try clear c8
          try clear c9
          try clear c10
          try clear c10b0
          try clear c10b1
          try clear c11
          try clear c14
          try clear c14b0
          try clear c15
          try clear c15b0
          try clear p2
          try clear p6
          obtain ⟨kq, x48_11, rfl, HA, HJ11, HB⟩ := hcut
          cases kq with
          | zero => exact absurd HA.out (by simp [reedpipelaw07_PowerDoubles.j1])
          | succ kj11 =>
            have H := HA.out
            clear HA
            simp only [reedpipelaw07_PowerDoubles.j1] at H
            by_cases c19 : x48_11 = true
            · subst c19
              have H1 : (some false) = some r := by rw [if_pos rfl] at H; exact H
              clear H
              have H := H1
              clear H1
              obtain rfl := Option.some.inj H
              go_wp2
              go_ret
              exact ⟨by first | rfl | (simp [errW_none, errW_some] <;> rfl) | (simp [*, errW_none, errW_some] <;> rfl), by repeat (first | (with_reducible first | exact HB.out | apply below_alloc | apply pw_below_drewN | apply below_drew1) | exact HB.out)⟩
            · replace c19 := Bool.eq_false_iff.mpr c19
              subst c19
              have H1 : ((power_Line.f (wrap64 (8 * a0)) a1).bind fun bt123 => (if bt123.2 = 0 then ((reedpipelaw07_far.f bt123.1 0).bind fun t125 => (reedpipelaw07_PowerDoubles.j2 kj11 a0 t117 t118 bt123.1 (t125 == 268435455))) else (reedpipelaw07_PowerDoubles.j2 kj11 a0 t117 t118 bt123.1 true))) = some r := by rw [if_neg (show ¬ (false = true) by decide)] at H; exact H
              clear H
              have H := H1
              clear H1
              replace H := Option.bind_eq_some_iff.mp H
              obtain ⟨⟨t123, t124⟩, A200, H⟩ := H
              replace H : (if t124 = 0 then ((reedpipelaw07_far.f t123 0).bind fun t125 => (reedpipelaw07_PowerDoubles.j2 kj11 a0 t117 t118 t123 (t125 == 268435455))) else (reedpipelaw07_PowerDoubles.j2 kj11 a0 t117 t118 t123 true)) = some r := H
              have A20 := Aside0.mk A200
              clear A200
              have HC21 := Aside0.mk H
              clear H
              go_upto_region 10 with (first | ((with_reducible refine gate_callee (f := 9) rfl ?_); refine goesL_ (some 53) rfl rfl Try.func9 (by kernel_rfl) rfl #[.int .i64 (wrap64 (8 * a0)), .int .i64 a1] rfl (by (try simp only [List.map_toArray, List.map_cons, List.map_nil]); first | done | rfl | (simp only [List.length_drop, List.length_take]; rfl)) ?_; (with_reducible refine (power_Line.calls (wrap64 (8 * a0)) a1 t123 t124 _ A20.out).mono ?_); rintro e w22 ⟨rfl, hb⟩; refine ⟨_, rfl, ?_⟩; have n0_ := Aside0.mk (below_step (by repeat (first | (with_reducible first | exact HB.out | apply below_alloc | apply pw_below_drewN | apply below_drew1) | exact HB.out)) hb); clear HB; have HB := n0_; clear n0_; (try clear hb); (try clear hb2); (try clear hk); (try clear hi)))
              (try simp only [Act.put, List.setIfInBounds_toArray, List.set_cons_zero, List.set_cons_succ])
              go_cut [62] (fun v62 wc => ∃ (kq : Nat) (x62_20 : Bool), v62 = .bool x62_20 ∧ Aside0 (reedpipelaw07_PowerDoubles.j2 kq a0 t117 t118 t123 x62_20 = some r) ∧ Aside0 (kq ≤ kj11) ∧ Aside0 (Below w.heap.size w wc))
              case first =>
                have H := HC21.out
                clear HC21
                by_cases c23 : t124 = 0
                · rw [if_pos c23] at H
                  have c23b0 : (t124 == 0) = true := beq_iff_eq.mpr c23
                  have c23b1 : (t124 != 0) = false := bne_eq_false_iff_eq.mpr c23
                  clear c23
                  (first | rw [c23b0] | (simp only [i64_w, i32_w]; rw [c23b0]) | skip)
                  replace H := Option.bind_eq_some_iff.mp H
                  obtain ⟨t125, A240, H⟩ := H
                  replace H : (reedpipelaw07_PowerDoubles.j2 kj11 a0 t117 t118 t123 (t125 == 268435455)) = some r := H
                  have A24 := Aside0.mk A240
                  clear A240
                  have H' := Aside0.mk H
                  clear H
                  go_wp2_with (first | (go_at_call 10; (with_reducible refine (reedpipelaw07_far.calls t123 0 t125 _ A24.out).mono ?_); rintro e w25 ⟨rfl, hb⟩; have n0_ := Aside0.mk (below_step (by repeat (first | (with_reducible first | exact HB.out | apply below_alloc | apply pw_below_drewN | apply below_drew1) | exact HB.out)) hb); clear HB; have HB := n0_; clear n0_; (try clear hb); (try clear hb2); (try clear hk); (try clear hi)))
                  go_meet
                  case rel => exact ⟨_, ((t125 == 268435455)), (by first | rfl | (simp; done) | (simp [*]; done)), H', ⟨by have := HJ5.out; have := HJ11.out; first | omega | exact Nat.le_refl _⟩, ⟨by repeat (first | (with_reducible first | exact HB.out | apply below_alloc | apply pw_below_drewN | apply below_drew1) | exact HB.out)⟩⟩
                · rw [if_neg c23] at H
                  have c23b0 : (t124 == 0) = false := beq_eq_false_iff_ne.mpr c23
                  have c23b1 : (t124 != 0) = true := bne_iff_ne.mpr c23
                  (first | rw [c23b0] | (simp only [i64_w, i32_w]; rw [c23b0]) | skip)
                  have H' := Aside0.mk H
                  clear H
                  go_wp2
                  go_meet
                  case rel => exact ⟨_, (true), (by first | rfl | (simp; done) | (simp [*]; done)), H', ⟨by have := HJ5.out; have := HJ11.out; first | omega | exact Nat.le_refl _⟩, ⟨by repeat (first | (with_reducible first | exact HB.out | apply below_alloc | apply pw_below_drewN | apply below_drew1) | exact HB.out)⟩⟩
              case rest =>
                clear HC21
                try clear c1
                try clear c2
                try clear p2
                try clear c4
                try clear p6
                try clear c8
                try clear c9
                try clear c10
                try clear c10b0
                try clear c10b1
                try clear c11
                try clear c14
                try clear c14b0
                try clear c15
                try clear c15b0
                try clear c19
                try clear c23
                try clear c23b0
                try clear c23b1
                try clear p2
                try clear p6
                obtain ⟨kq, x62_20, rfl, HA, HJ20, HB⟩ := hcut
                cases kq with
                | zero => exact absurd HA.out (by simp [reedpipelaw07_PowerDoubles.j2])
                | succ kj20 =>
                  have H := HA.out
                  clear HA
                  simp only [reedpipelaw07_PowerDoubles.j2] at H
                  by_cases c26 : x62_20 = true
                  · subst c26
                    have H1 : (some t117) = some r := by rw [if_pos rfl] at H; exact H
                    clear H
                    have H := H1
                    clear H1
                    obtain rfl := Option.some.inj H
                    go_wp2
                    go_ret
                    exact ⟨by first | rfl | (simp [errW_none, errW_some] <;> rfl) | (simp [*, errW_none, errW_some] <;> rfl), by repeat (first | (with_reducible first | exact HB.out | apply below_alloc | apply pw_below_drewN | apply below_drew1) | exact HB.out)⟩
                  · replace c26 := Bool.eq_false_iff.mpr c26
                    subst c26
                    have H1 : (if t117 = true then ((reedpipelaw07_far.f t123 (wrap64 (16 * t118))).bind fun t126 => ((reedpipelaw07_far.f t123 0).bind fun t127 => ((reedpipelaw07_far.f t123 0).bind fun t128 => ((reedpipelaw07_far.f a0 0).bind fun t129 => (if (mx t129 1) = 0 then (none) else (some (decide (t126 ≤ (wrap64 ((wrap64 (16 + (wrap64 (Int.tdiv t127 4096)))) + (wrap64 (Int.tdiv (wrap64 (Int.tdiv t128 (mx t129 1))) 1024)))))))))))) else (some false)) = some r := by rw [if_neg (show ¬ (false = true) by decide)] at H; exact H
                    clear H
                    have H := H1
                    clear H1
                    by_cases c27 : t117 = true
                    · subst c27
                      have H1 : ((reedpipelaw07_far.f t123 (wrap64 (16 * t118))).bind fun t126 => ((reedpipelaw07_far.f t123 0).bind fun t127 => ((reedpipelaw07_far.f t123 0).bind fun t128 => ((reedpipelaw07_far.f a0 0).bind fun t129 => (if (mx t129 1) = 0 then (none) else (some (decide (t126 ≤ (wrap64 ((wrap64 (16 + (wrap64 (Int.tdiv t127 4096)))) + (wrap64 (Int.tdiv (wrap64 (Int.tdiv t128 (mx t129 1))) 1024)))))))))))) = some r := by rw [if_pos rfl] at H; exact H
                      clear H
                      have H := H1
                      clear H1
                      replace H := Option.bind_eq_some_iff.mp H
                      obtain ⟨t126, A280, H⟩ := H
                      replace H : ((reedpipelaw07_far.f t123 0).bind fun t127 => ((reedpipelaw07_far.f t123 0).bind fun t128 => ((reedpipelaw07_far.f a0 0).bind fun t129 => (if (mx t129 1) = 0 then (none) else (some (decide (t126 ≤ (wrap64 ((wrap64 (16 + (wrap64 (Int.tdiv t127 4096)))) + (wrap64 (Int.tdiv (wrap64 (Int.tdiv t128 (mx t129 1))) 1024))))))))))) = some r := H
                      have A28 := Aside0.mk A280
                      clear A280
                      replace H := Option.bind_eq_some_iff.mp H
                      obtain ⟨t127, A290, H⟩ := H
                      replace H : ((reedpipelaw07_far.f t123 0).bind fun t128 => ((reedpipelaw07_far.f a0 0).bind fun t129 => (if (mx t129 1) = 0 then (none) else (some (decide (t126 ≤ (wrap64 ((wrap64 (16 + (wrap64 (Int.tdiv t127 4096)))) + (wrap64 (Int.tdiv (wrap64 (Int.tdiv t128 (mx t129 1))) 1024)))))))))) = some r := H
                      have A29 := Aside0.mk A290
                      clear A290
                      replace H := Option.bind_eq_some_iff.mp H
                      obtain ⟨t128, A300, H⟩ := H
                      replace H : ((reedpipelaw07_far.f a0 0).bind fun t129 => (if (mx t129 1) = 0 then (none) else (some (decide (t126 ≤ (wrap64 ((wrap64 (16 + (wrap64 (Int.tdiv t127 4096)))) + (wrap64 (Int.tdiv (wrap64 (Int.tdiv t128 (mx t129 1))) 1024))))))))) = some r := H
                      have A30 := Aside0.mk A300
                      clear A300
                      replace H := Option.bind_eq_some_iff.mp H
                      obtain ⟨t129, A310, H⟩ := H
                      replace H : (if (mx t129 1) = 0 then (none) else (some (decide (t126 ≤ (wrap64 ((wrap64 (16 + (wrap64 (Int.tdiv t127 4096)))) + (wrap64 (Int.tdiv (wrap64 (Int.tdiv t128 (mx t129 1))) 1024)))))))) = some r := H
                      have A31 := Aside0.mk A310
                      clear A310
                      obtain ⟨ji32, hji32⟩ : ∃ j_ : Int, (mx t129 1) = j_ := ⟨_, rfl⟩
                      replace H : (if (ji32) = 0 then (none) else (some (decide (t126 ≤ (wrap64 ((wrap64 (16 + (wrap64 (Int.tdiv t127 4096)))) + (wrap64 (Int.tdiv (wrap64 (Int.tdiv t128 (ji32))) 1024)))))))) = some r := by first | (rw [hji32] at H; exact H) | (simp only [hji32] at H ⊢; exact H)
                      (try rw [hji32] at A28)
                      (try rw [hji32] at A29)
                      (try rw [hji32] at A30)
                      (try rw [hji32] at A31)
                      (try (have hji32l : 1 ≤ ji32 := by (rw [← hji32]; unfold mx; (repeat' split) <;> omega)))
                      (try (have hji32m : 0 ≤ ji32 := by omega))
                      have hji32_ : (if t129 < 1 then 1 else t129) = ji32 := hji32
                      by_cases c33 : (ji32) = 0
                      · rw [if_pos c33] at H
                        exact absurd H (by simp)
                      · rw [if_neg c33] at H
                        have c33b0 : ((ji32) == 0) = false := beq_eq_false_iff_ne.mpr c33
                        have c33b1 : ((ji32) != 0) = true := bne_iff_ne.mpr c33
                        have E_ : t128 = t127 := Option.some.inj (A30.out.symm.trans A29.out)
                        (try rw [E_] at H)
                        clear E_
                        obtain rfl := Option.some.inj H
                        go_wp2_with (first | (go_at_call 10; (with_reducible refine (reedpipelaw07_far.calls t123 (wrap64 (16 * t118)) t126 _ A28.out).mono ?_); rintro e w34 ⟨rfl, hb⟩; have n0_ := Aside0.mk (below_step (by repeat (first | (with_reducible first | exact HB.out | apply below_alloc | apply pw_below_drewN | apply below_drew1) | exact HB.out)) hb); clear HB; have HB := n0_; clear n0_; (try clear hb); (try clear hb2); (try clear hk); (try clear hi)) | (go_at_call 10; (with_reducible refine (reedpipelaw07_far.calls t123 0 t127 _ A29.out).mono ?_); rintro e w35 ⟨rfl, hb⟩; have n0_ := Aside0.mk (below_step (by repeat (first | (with_reducible first | exact HB.out | apply below_alloc | apply pw_below_drewN | apply below_drew1) | exact HB.out)) hb); clear HB; have HB := n0_; clear n0_; (try clear hb); (try clear hb2); (try clear hk); (try clear hi)) | (go_at_call 10; (with_reducible refine (reedpipelaw07_far.calls t123 0 t127 _ A29.out).mono ?_); rintro e w36 ⟨rfl, hb⟩; have n0_ := Aside0.mk (below_step (by repeat (first | (with_reducible first | exact HB.out | apply below_alloc | apply pw_below_drewN | apply below_drew1) | exact HB.out)) hb); clear HB; have HB := n0_; clear n0_; (try clear hb); (try clear hb2); (try clear hk); (try clear hi)) | (go_at_call 10; (with_reducible refine (reedpipelaw07_far.calls a0 0 t129 _ A31.out).mono ?_); rintro e w37 ⟨rfl, hb⟩; have n0_ := Aside0.mk (below_step (by repeat (first | (with_reducible first | exact HB.out | apply below_alloc | apply pw_below_drewN | apply below_drew1) | exact HB.out)) hb); clear HB; have HB := n0_; clear n0_; (try clear hb); (try clear hb2); (try clear hk); (try clear hi)))
                        go_ret
                        exact ⟨by first | rfl | (simp [errW_none, errW_some] <;> rfl) | (simp only [← hji32]; first | rfl | (simp [errW_none, errW_some] <;> rfl)) | (simp [*, errW_none, errW_some] <;> rfl), by repeat (first | (with_reducible first | exact HB.out | apply below_alloc | apply pw_below_drewN | apply below_drew1) | exact HB.out)⟩
                    · replace c27 := Bool.eq_false_iff.mpr c27
                      subst c27
                      have H1 : (some false) = some r := by rw [if_neg (show ¬ (false = true) by decide)] at H; exact H
                      clear H
                      have H := H1
                      clear H1
                      obtain rfl := Option.some.inj H
                      go_wp2
                      go_ret
                      exact ⟨by first | rfl | (simp [errW_none, errW_some] <;> rfl) | (simp [*, errW_none, errW_some] <;> rfl), by repeat (first | (with_reducible first | exact HB.out | apply below_alloc | apply pw_below_drewN | apply below_drew1) | exact HB.out)⟩

/-- THE ONE PURE STATEMENT of reedpipelaw07_PowerDoubles: yours. -/
def reedpipelaw07_PowerDoubles.Pure : Prop := ∀ (a0 : Int) (a1 : Int), (Lit.int .i64 a0).wf = true → (Lit.int .i64 a1).wf = true → ∃ k, reedpipelaw07_PowerDoubles.f k a0 a1 = some true
theorem reedpipelaw07_PowerDoubles.walk (P : reedpipelaw07_PowerDoubles.Pure) (a0 : Int) (a1 : Int) (w : World) (w0 : (Lit.int .i64 a0).wf = true) (w1 : (Lit.int .i64 a1).wf = true) :
    Calls Try.prog 4 #[.int .i64 a0, .int .i64 a1] w fun e w' => e = .returned (.bool true) ∧ Below w.heap.size w w' := by
  obtain ⟨k, h⟩ := P a0 a1 w0 w1
  refine (reedpipelaw07_PowerDoubles.calls k a0 a1 true w h).mono ?_
  rintro e w' ⟨rfl, hd⟩
  exact ⟨rfl, hd⟩

end Go.Proofs.Ythlodaeodakomab.PrintP
