-- Written by a program of this session's own (a turned copy of the kit's print); Lean checks it.
import Derived.Test.YthlodaeodakomacPrintN0
import Derived.Test.YthlodaeodakomacPrintN7
import Derived.Test.YthlodaeodakomacPrintN10
import Derived.Test.YthlodaeodakomacPrintN20
import Derived.Test.YthlodaeodakomacPrintN21
namespace Go.Proofs.Ythlodaeodakomac.PrintN
open Go.RowKit Go.Proofs.Ythlodaeodakomac Go.Proofs.YthlodaeodakomacW.PrintWords Go.Proofs.YthlodaeodakomacW.PrintLast Go.Proofs.YthlodaeodakomacW.PrintMore
attribute [local go_sem] max2_int min2_int max_two min_two max_three min_three max_four min_four   -- for this text's walks alone
set_option linter.unusedVariables false
set_option linter.unusedSimpArgs false

/-! ### reedpipelaw16_NoiseDoes: function 6 -/
mutual
def reedpipelaw16_NoiseDoes.j0 : Nat → Int → Int → Int → List Int → List Int → Int → Bool → Option (Bool)
  | 0, _, _, _, _, _, _, _ => none
  | k + 1, x3, x4, x5, x17, x19, x20, x70 => if x70 = true then (some false) else (reedpipelaw16_NoiseDoes.l0 k x3 x4 x5 x17 x19 x20 0)
def reedpipelaw16_NoiseDoes.l0 : Nat → Int → Int → Int → List Int → List Int → Int → Int → Option (Bool)
  | 0, _, _, _, _, _, _, _ => none
  | k + 1, x3, x4, x5, x17, x19, x20, x21 => if x21 < (x17.length : Int) then (if 0 ≤ x21 then (reedpipelaw16_NoiseDoes.l0 k x3 x4 x5 (x17.set (x21 : Int).toNat (wrap64 ((rd x17 x21) + 1))) x19 x20 (wrap64 (x21 + 1))) else (none)) else ((noise_Band.f x3 x4 x5).bind fun bt205 => ((reedpiperef11_Same.f k bt205.1 x19).bind fun t209 => (if t209 = true then (some (bt205.2 == x20)) else (some false))))
end
def reedpipelaw16_NoiseDoes.f (k : Nat) (a0 : Int) (a1 : Int) (a2 : Int) (a3 : Int) (a4 : Int) (a5 : Int) : Option (Bool) := (noise_Seed.f a0 a1 a2).bind fun bt190 => ((reedpiperef16_Seed.f a0 a1 a2).bind fun bt192 => ((noise_Band.f a3 a4 a5).bind fun bt194 => ((reedpiperef16_Band.f k a3 a4 a5).bind fun bt198 => (if bt190.1 = bt192.1 then (if bt190.2 = bt192.2 then ((reedpiperef11_Same.f k bt194.1 bt198.1).bind fun t202 => (if t202 = true then (reedpipelaw16_NoiseDoes.j0 k a3 a4 a5 bt194.1 bt198.1 bt198.2 (bt194.2 != bt198.2)) else (reedpipelaw16_NoiseDoes.j0 k a3 a4 a5 bt194.1 bt198.1 bt198.2 true))) else (reedpipelaw16_NoiseDoes.j0 k a3 a4 a5 bt194.1 bt198.1 bt198.2 true)) else (reedpipelaw16_NoiseDoes.j0 k a3 a4 a5 bt194.1 bt198.1 bt198.2 true)))))
theorem reedpipelaw16_NoiseDoes.mono_l : ∀ k, (∀ y0 y1 y2 y3 y4 y5 y6, LeO (reedpipelaw16_NoiseDoes.j0 k y0 y1 y2 y3 y4 y5 y6) (reedpipelaw16_NoiseDoes.j0 (k + 1) y0 y1 y2 y3 y4 y5 y6)) ∧ (∀ y0 y1 y2 y3 y4 y5 y6, LeO (reedpipelaw16_NoiseDoes.l0 k y0 y1 y2 y3 y4 y5 y6) (reedpipelaw16_NoiseDoes.l0 (k + 1) y0 y1 y2 y3 y4 y5 y6))
  | 0 => ⟨fun _ _ _ _ _ _ _ r h => by simp [reedpipelaw16_NoiseDoes.j0] at h, fun _ _ _ _ _ _ _ r h => by simp [reedpipelaw16_NoiseDoes.l0] at h⟩
  | k + 1 => by
    obtain ⟨ih0, ih1⟩ := reedpipelaw16_NoiseDoes.mono_l k
    refine ⟨?_, ?_⟩
    · intro y0 y1 y2 y3 y4 y5 y6
      unfold reedpipelaw16_NoiseDoes.j0
      repeat' first
      | (with_reducible exact ih0 _ _ _ _ _ _ _)
      | (with_reducible exact ih1 _ _ _ _ _ _ _)
      | (with_reducible exact reedpiperef11_Same.mono _ _ _)
      | (with_reducible exact reedpiperef16_Band.mono _ _ _ _)
      | (with_reducible exact LeO.refl _)
      | (with_reducible exact LeO.none _)
      | (with_reducible refine LeO.ite ?_ ?_)
      | (with_reducible refine LeO.bind ?_ (fun _ => ?_))
      | exact ih0 _ _ _ _ _ _ _
      | exact ih1 _ _ _ _ _ _ _
      | exact reedpiperef11_Same.mono _ _ _
      | exact reedpiperef16_Band.mono _ _ _ _
      | exact LeO.none _
      | refine LeO.ite ?_ ?_
      | refine LeO.bind ?_ (fun _ => ?_)
    · intro y0 y1 y2 y3 y4 y5 y6
      unfold reedpipelaw16_NoiseDoes.l0
      repeat' first
      | (with_reducible exact ih0 _ _ _ _ _ _ _)
      | (with_reducible exact ih1 _ _ _ _ _ _ _)
      | (with_reducible exact reedpiperef11_Same.mono _ _ _)
      | (with_reducible exact reedpiperef16_Band.mono _ _ _ _)
      | (with_reducible exact LeO.refl _)
      | (with_reducible exact LeO.none _)
      | (with_reducible refine LeO.ite ?_ ?_)
      | (with_reducible refine LeO.bind ?_ (fun _ => ?_))
      | exact ih0 _ _ _ _ _ _ _
      | exact ih1 _ _ _ _ _ _ _
      | exact reedpiperef11_Same.mono _ _ _
      | exact reedpiperef16_Band.mono _ _ _ _
      | exact LeO.none _
      | refine LeO.ite ?_ ?_
      | refine LeO.bind ?_ (fun _ => ?_)
theorem reedpipelaw16_NoiseDoes.mono : ∀ a0 a1 a2 a3 a4 a5 k, LeO (reedpipelaw16_NoiseDoes.f k a0 a1 a2 a3 a4 a5) (reedpipelaw16_NoiseDoes.f (k + 1) a0 a1 a2 a3 a4 a5) := by
  intro a0 a1 a2 a3 a4 a5 k
  obtain ⟨ih0, ih1⟩ := reedpipelaw16_NoiseDoes.mono_l k
  unfold reedpipelaw16_NoiseDoes.f
  repeat' first
      | (with_reducible exact ih0 _ _ _ _ _ _ _)
      | (with_reducible exact ih1 _ _ _ _ _ _ _)
      | (with_reducible exact reedpiperef11_Same.mono _ _ _)
      | (with_reducible exact reedpiperef16_Band.mono _ _ _ _)
      | (with_reducible exact LeO.refl _)
      | (with_reducible exact LeO.none _)
      | (with_reducible refine LeO.ite ?_ ?_)
      | (with_reducible refine LeO.bind ?_ (fun _ => ?_))
      | exact ih0 _ _ _ _ _ _ _
      | exact ih1 _ _ _ _ _ _ _
      | exact reedpiperef11_Same.mono _ _ _
      | exact reedpiperef16_Band.mono _ _ _ _
      | exact LeO.none _
      | refine LeO.ite ?_ ?_
      | refine LeO.bind ?_ (fun _ => ?_)
set_option maxHeartbeats 8000000 in
set_option maxRecDepth 100000 in
theorem reedpipelaw16_NoiseDoes.calls (k : Nat) (a0 : Int) (a1 : Int) (a2 : Int) (a3 : Int) (a4 : Int) (a5 : Int) (r : Bool) (w : World) (h : reedpipelaw16_NoiseDoes.f k a0 a1 a2 a3 a4 a5 = some r) :
    Calls Try.prog 6 #[.int .i64 a0, .int .i64 a1, .int .i64 a2, .int .u32 a3, .int .i64 a4, .int .i64 a5] w fun e w' => e = .returned (.bool r) ∧ Below w.heap.size w w' := by
  have HB := Aside0.mk (Below.refl w.heap.size w)
  have H : ((noise_Seed.f a0 a1 a2).bind fun bt190 => ((reedpiperef16_Seed.f a0 a1 a2).bind fun bt192 => ((noise_Band.f a3 a4 a5).bind fun bt194 => ((reedpiperef16_Band.f k a3 a4 a5).bind fun bt198 => (if bt190.1 = bt192.1 then (if bt190.2 = bt192.2 then ((reedpiperef11_Same.f k bt194.1 bt198.1).bind fun t202 => (if t202 = true then (reedpipelaw16_NoiseDoes.j0 k a3 a4 a5 bt194.1 bt198.1 bt198.2 (bt194.2 != bt198.2)) else (reedpipelaw16_NoiseDoes.j0 k a3 a4 a5 bt194.1 bt198.1 bt198.2 true))) else (reedpipelaw16_NoiseDoes.j0 k a3 a4 a5 bt194.1 bt198.1 bt198.2 true)) else (reedpipelaw16_NoiseDoes.j0 k a3 a4 a5 bt194.1 bt198.1 bt198.2 true)))))) = some r := h
  clear h
  replace H := Option.bind_eq_some_iff.mp H
  obtain ⟨⟨t190, t191⟩, A70, H⟩ := H
  replace H : ((reedpiperef16_Seed.f a0 a1 a2).bind fun bt192 => ((noise_Band.f a3 a4 a5).bind fun bt194 => ((reedpiperef16_Band.f k a3 a4 a5).bind fun bt198 => (if t190 = bt192.1 then (if t191 = bt192.2 then ((reedpiperef11_Same.f k bt194.1 bt198.1).bind fun t202 => (if t202 = true then (reedpipelaw16_NoiseDoes.j0 k a3 a4 a5 bt194.1 bt198.1 bt198.2 (bt194.2 != bt198.2)) else (reedpipelaw16_NoiseDoes.j0 k a3 a4 a5 bt194.1 bt198.1 bt198.2 true))) else (reedpipelaw16_NoiseDoes.j0 k a3 a4 a5 bt194.1 bt198.1 bt198.2 true)) else (reedpipelaw16_NoiseDoes.j0 k a3 a4 a5 bt194.1 bt198.1 bt198.2 true))))) = some r := H
  have A7 := Aside0.mk A70
  clear A70
  replace H := Option.bind_eq_some_iff.mp H
  obtain ⟨⟨t192, t193⟩, A80, H⟩ := H
  replace H : ((noise_Band.f a3 a4 a5).bind fun bt194 => ((reedpiperef16_Band.f k a3 a4 a5).bind fun bt198 => (if t190 = t192 then (if t191 = t193 then ((reedpiperef11_Same.f k bt194.1 bt198.1).bind fun t202 => (if t202 = true then (reedpipelaw16_NoiseDoes.j0 k a3 a4 a5 bt194.1 bt198.1 bt198.2 (bt194.2 != bt198.2)) else (reedpipelaw16_NoiseDoes.j0 k a3 a4 a5 bt194.1 bt198.1 bt198.2 true))) else (reedpipelaw16_NoiseDoes.j0 k a3 a4 a5 bt194.1 bt198.1 bt198.2 true)) else (reedpipelaw16_NoiseDoes.j0 k a3 a4 a5 bt194.1 bt198.1 bt198.2 true)))) = some r := H
  have A8 := Aside0.mk A80
  clear A80
  replace H := Option.bind_eq_some_iff.mp H
  obtain ⟨⟨t194, t195⟩, A90, H⟩ := H
  replace H : ((reedpiperef16_Band.f k a3 a4 a5).bind fun bt198 => (if t190 = t192 then (if t191 = t193 then ((reedpiperef11_Same.f k t194 bt198.1).bind fun t202 => (if t202 = true then (reedpipelaw16_NoiseDoes.j0 k a3 a4 a5 t194 bt198.1 bt198.2 (t195 != bt198.2)) else (reedpipelaw16_NoiseDoes.j0 k a3 a4 a5 t194 bt198.1 bt198.2 true))) else (reedpipelaw16_NoiseDoes.j0 k a3 a4 a5 t194 bt198.1 bt198.2 true)) else (reedpipelaw16_NoiseDoes.j0 k a3 a4 a5 t194 bt198.1 bt198.2 true))) = some r := H
  have A9 := Aside0.mk A90
  clear A90
  replace H := Option.bind_eq_some_iff.mp H
  obtain ⟨⟨t198, t199⟩, A100, H⟩ := H
  replace H : (if t190 = t192 then (if t191 = t193 then ((reedpiperef11_Same.f k t194 t198).bind fun t202 => (if t202 = true then (reedpipelaw16_NoiseDoes.j0 k a3 a4 a5 t194 t198 t199 (t195 != t199)) else (reedpipelaw16_NoiseDoes.j0 k a3 a4 a5 t194 t198 t199 true))) else (reedpipelaw16_NoiseDoes.j0 k a3 a4 a5 t194 t198 t199 true)) else (reedpipelaw16_NoiseDoes.j0 k a3 a4 a5 t194 t198 t199 true)) = some r := H
  have A10 := Aside0.mk A100
  clear A100
  have HC11 := Aside0.mk H
  clear H
  go_enter Try.func6, Try.ntmps6
  go_upto_region 5 with (first | ((with_reducible refine gate_callee (f := 11) rfl ?_); refine goesL_ (some 28) rfl rfl Try.func11 (by kernel_rfl) rfl #[.int .i64 a0, .int .i64 a1, .int .i64 a2] rfl (by (try simp only [List.map_toArray, List.map_cons, List.map_nil]); first | done | rfl | (simp only [List.length_drop, List.length_take]; rfl)) ?_; (with_reducible refine (noise_Seed.calls a0 a1 a2 t190 t191 _ A7.out).mono ?_); rintro e w' ⟨rfl, ⟨nd, rfl⟩⟩; refine ⟨_, rfl, ?_⟩) | ((with_reducible refine gate_callee (f := 12) rfl ?_); refine goesL_ (some 35) rfl rfl Try.func12 (by kernel_rfl) rfl #[.int .i64 a0, .int .i64 a1, .int .i64 a2] rfl (by (try simp only [List.map_toArray, List.map_cons, List.map_nil]); first | done | rfl | (simp only [List.length_drop, List.length_take]; rfl)) ?_; (with_reducible refine (reedpiperef16_Seed.calls a0 a1 a2 t192 t193 _ A8.out).mono ?_); rintro e w' ⟨rfl, ⟨nd, rfl⟩⟩; refine ⟨_, rfl, ?_⟩) | ((with_reducible refine gate_callee (f := 9) rfl ?_); refine goesL_ (some 42) rfl rfl Try.func9 (by kernel_rfl) rfl #[.int .u32 a3, .int .i64 a4, .int .i64 a5] rfl (by (try simp only [List.map_toArray, List.map_cons, List.map_nil]); first | done | rfl | (simp only [List.length_drop, List.length_take]; rfl)) ?_; (with_reducible refine (noise_Band.calls a3 a4 a5 t194 t195 _ A9.out).mono ?_); rintro e w12 ⟨v196, rfl, ho0, hb⟩; refine ⟨_, rfl, ?_⟩; have n0_ := Aside0.mk (Kd.R_lower ho0 (below_size (by repeat (first | (with_reducible first | exact HB.out | apply below_alloc | apply pw_below_drewN | apply below_drew1) | exact HB.out)))); have n1_ := Aside0.mk (below_step (by repeat (first | (with_reducible first | exact HB.out | apply below_alloc | apply pw_below_drewN | apply below_drew1) | exact HB.out)) hb); clear HB; have HO197 := n0_; have HB := n1_; clear n0_ n1_; (try clear hb); (try clear hb2); (try clear hk); (try clear hi); (try clear ho0)) | ((with_reducible refine gate_callee (f := 13) rfl ?_); refine goesL_ (some 49) rfl rfl Try.func13 (by kernel_rfl) rfl #[.int .u32 a3, .int .i64 a4, .int .i64 a5] rfl (by (try simp only [List.map_toArray, List.map_cons, List.map_nil]); first | done | rfl | (simp only [List.length_drop, List.length_take]; rfl)) ?_; (with_reducible refine (reedpiperef16_Band.calls k a3 a4 a5 t198 t199 _ A10.out).mono ?_); rintro e w13 ⟨v200, rfl, ho0, hb⟩; refine ⟨_, rfl, ?_⟩; have n0_ := Aside0.mk (Kd.R_elder' (by (with_reducible repeat (first | apply Kd.R_alloc | apply Kd.R_drewN | apply Kd.R_drew)); exact HO197.out) (Kd.R_base ho0) hb); have n1_ := Aside0.mk (Kd.R_lower (Kd.R_new' ho0 (Kd.R_lt (by (with_reducible repeat (first | apply Kd.R_alloc | apply Kd.R_drewN | apply Kd.R_drew)); exact HO197.out))) (below_size (by repeat (first | (with_reducible first | exact HB.out | apply below_alloc | apply pw_below_drewN | apply below_drew1) | exact HB.out)))); have n2_ := Aside0.mk (below_step (by repeat (first | (with_reducible first | exact HB.out | apply below_alloc | apply pw_below_drewN | apply below_drew1) | exact HB.out)) hb); clear HO197; clear HB; have HO197 := n0_; have HO201 := n1_; have HB := n2_; clear n0_ n1_ n2_; (try clear hb); (try clear hb2); (try clear hk); (try clear hi); (try clear ho0)))
  (try simp only [Act.put, List.setIfInBounds_toArray, List.set_cons_zero, List.set_cons_succ])
  go_cut [70] (fun v70 wc => ∃ (kq : Nat) (x70_10 : Bool), v70 = .bool x70_10 ∧ Aside0 (reedpipelaw16_NoiseDoes.j0 kq a3 a4 a5 t194 t198 t199 x70_10 = some r) ∧ Aside0 (kq ≤ k) ∧ Aside0 (Kd.R (Kd.int .i64) 3 wc w.heap.size (fun k_ => some k_ ≠ (v200 : Value).ownBlock) v196 t194) ∧ Aside0 (Kd.R (Kd.int .i64) 3 wc w.heap.size (fun k_ => some k_ ≠ (v196 : Value).ownBlock) v200 t198) ∧ Aside0 (Below w.heap.size w wc))
  case first =>
    have H := HC11.out
    clear HC11
    by_cases c14 : t190 = t192
    · rw [if_pos c14] at H
      have c14b0 : (t190 == t192) = true := beq_iff_eq.mpr c14
      have c14b1 : (t190 != t192) = false := bne_eq_false_iff_eq.mpr c14
      clear c14
      (first | rw [c14b0] | (simp only [i64_w, i32_w]; rw [c14b0]) | skip)
      by_cases c15 : t191 = t193
      · rw [if_pos c15] at H
        have c15b0 : (t191 == t193) = true := beq_iff_eq.mpr c15
        have c15b1 : (t191 != t193) = false := bne_eq_false_iff_eq.mpr c15
        clear c15
        replace H := Option.bind_eq_some_iff.mp H
        obtain ⟨t202, A160, H⟩ := H
        replace H : (if t202 = true then (reedpipelaw16_NoiseDoes.j0 k a3 a4 a5 t194 t198 t199 (t195 != t199)) else (reedpipelaw16_NoiseDoes.j0 k a3 a4 a5 t194 t198 t199 true)) = some r := H
        have A16 := Aside0.mk A160
        clear A160
        by_cases c17 : t202 = true
        · subst c17
          have H1 : (reedpipelaw16_NoiseDoes.j0 k a3 a4 a5 t194 t198 t199 (t195 != t199)) = some r := by rw [if_pos rfl] at H; exact H
          clear H
          have H := H1
          clear H1
          have H' := Aside0.mk H
          clear H
          obtain ⟨Ao18, co18, eo18⟩ := Kd.R_slice HO197.out
          subst eo18
          obtain ⟨Ao19, co19, eo19⟩ := Kd.R_slice HO201.out
          subst eo19
          go_wp2_with (first | (go_at_call 14; (with_reducible refine (reedpiperef11_Same.calls k _ _ t194 _ _ t198 true _ ?side1 ?side2 ?side3 ?side4 A16.out).mono ?_); (case side1 => repeat (first | exact (Kd.R_reads' HO197.out).2.2 | (with_reducible refine Kd.C_alloc ?_ _) | (with_reducible refine Kd.C_drewN ?_ _) | (with_reducible refine Kd.C_drew ?_))); (case side2 => exact (Kd.R_reads' HO197.out).2.1); (case side3 => repeat (first | exact (Kd.R_reads' HO201.out).2.2 | (with_reducible refine Kd.C_alloc ?_ _) | (with_reducible refine Kd.C_drewN ?_ _) | (with_reducible refine Kd.C_drew ?_))); (case side4 => exact (Kd.R_reads' HO201.out).2.1); rintro e w' ⟨rfl, ⟨nd, rfl⟩⟩))
          go_meet
          case rel => exact ⟨_, ((t195 != t199)), (by first | rfl | (simp; done) | (simp [*]; done)), H', ⟨by first | omega | exact Nat.le_refl _⟩, ⟨by (with_reducible repeat (first | apply Kd.R_alloc | apply Kd.R_drewN | apply Kd.R_drew)); exact Kd.R_mono HO197.out (fun _ hk => hk.2)⟩, ⟨by (with_reducible repeat (first | apply Kd.R_alloc | apply Kd.R_drewN | apply Kd.R_drew)); exact Kd.R_mono HO201.out (fun _ hk => hk.2)⟩, ⟨by repeat (first | (with_reducible first | exact HB.out | apply below_alloc | apply pw_below_drewN | apply below_drew1) | exact HB.out)⟩⟩
        · replace c17 := Bool.eq_false_iff.mpr c17
          subst c17
          have H1 : (reedpipelaw16_NoiseDoes.j0 k a3 a4 a5 t194 t198 t199 true) = some r := by rw [if_neg (show ¬ (false = true) by decide)] at H; exact H
          clear H
          have H := H1
          clear H1
          have H' := Aside0.mk H
          clear H
          obtain ⟨Ao20, co20, eo20⟩ := Kd.R_slice HO197.out
          subst eo20
          obtain ⟨Ao21, co21, eo21⟩ := Kd.R_slice HO201.out
          subst eo21
          go_wp2_with (first | (go_at_call 14; (with_reducible refine (reedpiperef11_Same.calls k _ _ t194 _ _ t198 false _ ?side1 ?side2 ?side3 ?side4 A16.out).mono ?_); (case side1 => repeat (first | exact (Kd.R_reads' HO197.out).2.2 | (with_reducible refine Kd.C_alloc ?_ _) | (with_reducible refine Kd.C_drewN ?_ _) | (with_reducible refine Kd.C_drew ?_))); (case side2 => exact (Kd.R_reads' HO197.out).2.1); (case side3 => repeat (first | exact (Kd.R_reads' HO201.out).2.2 | (with_reducible refine Kd.C_alloc ?_ _) | (with_reducible refine Kd.C_drewN ?_ _) | (with_reducible refine Kd.C_drew ?_))); (case side4 => exact (Kd.R_reads' HO201.out).2.1); rintro e w' ⟨rfl, ⟨nd, rfl⟩⟩))
          go_meet
          case rel => exact ⟨_, (true), (by first | rfl | (simp; done) | (simp [*]; done)), H', ⟨by first | omega | exact Nat.le_refl _⟩, ⟨by (with_reducible repeat (first | apply Kd.R_alloc | apply Kd.R_drewN | apply Kd.R_drew)); exact Kd.R_mono HO197.out (fun _ hk => hk.2)⟩, ⟨by (with_reducible repeat (first | apply Kd.R_alloc | apply Kd.R_drewN | apply Kd.R_drew)); exact Kd.R_mono HO201.out (fun _ hk => hk.2)⟩, ⟨by repeat (first | (with_reducible first | exact HB.out | apply below_alloc | apply pw_below_drewN | apply below_drew1) | exact HB.out)⟩⟩
      · rw [if_neg c15] at H
        have c15b0 : (t191 == t193) = false := beq_eq_false_iff_ne.mpr c15
        have c15b1 : (t191 != t193) = true := bne_iff_ne.mpr c15
        have H' := Aside0.mk H
        clear H
        go_wp2
        go_meet
        case rel => exact ⟨_, (true), (by first | rfl | (simp; done) | (simp [*]; done)), H', ⟨by first | omega | exact Nat.le_refl _⟩, ⟨by (with_reducible repeat (first | apply Kd.R_alloc | apply Kd.R_drewN | apply Kd.R_drew)); exact Kd.R_mono HO197.out (fun _ hk => hk.2)⟩, ⟨by (with_reducible repeat (first | apply Kd.R_alloc | apply Kd.R_drewN | apply Kd.R_drew)); exact Kd.R_mono HO201.out (fun _ hk => hk.2)⟩, ⟨by repeat (first | (with_reducible first | exact HB.out | apply below_alloc | apply pw_below_drewN | apply below_drew1) | exact HB.out)⟩⟩
    · rw [if_neg c14] at H
      have c14b0 : (t190 == t192) = false := beq_eq_false_iff_ne.mpr c14
      have c14b1 : (t190 != t192) = true := bne_iff_ne.mpr c14
      (first | rw [c14b0] | (simp only [i64_w, i32_w]; rw [c14b0]) | skip)
      have H' := Aside0.mk H
      clear H
      go_wp2
      go_meet
      case rel => exact ⟨_, (true), (by first | rfl | (simp; done) | (simp [*]; done)), H', ⟨by first | omega | exact Nat.le_refl _⟩, ⟨by (with_reducible repeat (first | apply Kd.R_alloc | apply Kd.R_drewN | apply Kd.R_drew)); exact Kd.R_mono HO197.out (fun _ hk => hk.2)⟩, ⟨by (with_reducible repeat (first | apply Kd.R_alloc | apply Kd.R_drewN | apply Kd.R_drew)); exact Kd.R_mono HO201.out (fun _ hk => hk.2)⟩, ⟨by repeat (first | (with_reducible first | exact HB.out | apply below_alloc | apply pw_below_drewN | apply below_drew1) | exact HB.out)⟩⟩
  case rest =>
    clear HC11
    try clear c1
    try clear p2
    try clear c6
    try clear c9
    try clear c11
    try clear c12
    try clear c13
    try clear c14
    try clear c14b0
    try clear c14b1
    try clear c15
    try clear c15b0
    try clear c15b1
    try clear c17
    obtain ⟨kq, x70_10, rfl, HA, HJ10, HO_17, HO_19, HB⟩ := hcut
    cases kq with
    | zero => exact absurd HA.out (by simp [reedpipelaw16_NoiseDoes.j0])
    | succ kj10 =>
      have H := HA.out
      clear HA
      simp only [reedpipelaw16_NoiseDoes.j0] at H
      by_cases c22 : x70_10 = true
      · subst c22
        have H1 : (some false) = some r := by rw [if_pos rfl] at H; exact H
        clear H
        have H := H1
        clear H1
        obtain rfl := Option.some.inj H
        go_wp2
        go_ret
        exact ⟨by first | rfl | (simp [errW_none, errW_some] <;> rfl) | (simp [*, errW_none, errW_some] <;> rfl), by repeat (first | (with_reducible first | exact HB.out | apply below_alloc | apply pw_below_drewN | apply below_drew1) | exact HB.out)⟩
      · replace c22 := Bool.eq_false_iff.mpr c22
        subst c22
        have H1 : (reedpipelaw16_NoiseDoes.l0 kj10 a3 a4 a5 t194 t198 t199 0) = some r := by rw [if_neg (show ¬ (false = true) by decide)] at H; exact H
        clear H
        have H := H1
        clear H1
        have H' := Aside0.mk H
        clear H
        go_wp2
        go_loopg [21] kj10 (fun kq v21 w' => ∃ (x17_2 : List Int) (x21_2 : Int), v21 = .int .i64 x21_2 ∧ Aside0 (reedpipelaw16_NoiseDoes.l0 kq a3 a4 a5 x17_2 t198 t199 x21_2 = some r) ∧ Aside0 (kq ≤ kj10) ∧ Aside0 (Kd.R (Kd.int .i64) 3 w' w.heap.size (fun k_ => some k_ ≠ (v200 : Value).ownBlock) v196 x17_2) ∧ Aside0 (Kd.R (Kd.int .i64) 3 w' w.heap.size (fun k_ => some k_ ≠ (v196 : Value).ownBlock) v200 t198) ∧ Aside0 (Below w.heap.size w w'))
        case atStart => exact ⟨(t194), (0), (by first | rfl | (simp; done) | (simp [*]; done)), H', ⟨Nat.le_refl _⟩, ⟨by (with_reducible repeat (first | apply Kd.R_alloc | apply Kd.R_drewN | apply Kd.R_drew)); exact HO_17.out⟩, ⟨by (with_reducible repeat (first | apply Kd.R_alloc | apply Kd.R_drewN | apply Kd.R_drew)); exact HO_19.out⟩, ⟨by repeat (first | (with_reducible first | exact HB.out | apply below_alloc | apply pw_below_drewN | apply below_drew1) | exact HB.out)⟩⟩
        case round =>
          clear H'
          try clear c1
          try clear c2
          try clear p2
          try clear c6
          try clear c9
          try clear c11
          try clear c12
          try clear c13
          try clear c14
          try clear c14b0
          try clear c14b1
          try clear c15
          try clear c15b0
          try clear c15b1
          try clear c17
          try clear c22
          try clear p2
          obtain ⟨x17_2, x21_2, rfl, HA, HK2, HO_17, HO_19, HB⟩ := hrel
          cases gk with
          | zero => exact absurd HA.out (by simp [reedpipelaw16_NoiseDoes.l0])
          | succ k2 =>
            have H := HA.out
            clear HA
            simp only [reedpipelaw16_NoiseDoes.l0] at H
            by_cases c23 : x21_2 < (x17_2.length : Int)
            · rw [if_pos c23] at H
              have c23b0 : decide (x21_2 < (x17_2.length : Int)) = true := decide_eq_true c23
              clear c23
              by_cases c24 : 0 ≤ x21_2
              · rw [if_pos c24] at H
                have c24b0 : decide (0 ≤ x21_2) = true := decide_eq_true c24
                clear c24
                obtain ⟨y204, hy204⟩ : ∃ y_ : List Int, y_ = (x17_2.set (x21_2 : Int).toNat (wrap64 ((rd x17_2 x21_2) + 1))) := ⟨_, rfl⟩
                replace H : (reedpipelaw16_NoiseDoes.l0 k2 a3 a4 a5 y204 t198 t199 (wrap64 (x21_2 + 1))) = some r := by first | (rw [hy204]; with_reducible exact H) | (have H2_ := (Option.bind_some _ _).symm.trans H; rw [hy204]; with_reducible exact H2_) | (have H2_ := (Option.bind_some _ _).symm.trans H; with_reducible exact H2_) | with_reducible exact H | (rw [hy204]; exact H) | exact H
                have Ny204 := Aside0.mk hy204
                clear hy204
                have H' := Aside0.mk H
                clear H
                obtain ⟨Ao26, co26, eo26⟩ := Kd.R_slice HO_17.out
                subst eo26
                have p203 : 0 ≤ (x21_2 : Int) := of_decide_eq_true (by first | (with_reducible assumption) | assumption)
                have q203 : x21_2 < (x17_2.length : Int) := of_decide_eq_true (by first | (with_reducible assumption) | assumption)
                obtain ⟨ad203, e203, hx203_0⟩ := Kd.at_int (Kd.R_reads' HO_17.out).2.2 x21_2 p203 q203
                cases e203
                replace p203 := eq_true p203
                replace q203 := eq_true q203
                have p25 : 0 ≤ (x21_2 : Int) := of_decide_eq_true (by first | (with_reducible assumption) | assumption)
                have q25 : (x21_2 : Int) < ((x17_2.length : Int) : Int) := of_decide_eq_true (by first | (with_reducible assumption) | assumption)
                obtain ⟨go25, co25, eo25, gb25, gl25, cl25, HG25⟩ := Kd.R_form HO_17.out (by omega)
                (first | cases eo25 | (injection eo25 with ea_ en_ ec_; (first | subst ea_ | (injection ea_ with ea_; subst ea_)); subst ec_; clear en_))
                have GB25 := Aside0.mk gb25
                have GG25 := Aside0.mk HG25
                clear gb25 gl25 HG25
                (first | simp only [add_plain] at hx203_0 | skip)
                obtain ⟨hx25_0, hf25_0⟩ := Kd.R_celln 0 HO_17.out (x21_2 : Int) p25 q25
                replace p25 := eq_true p25
                replace q25 := eq_true q25
                have HP27 := Kd.R_putg HO_17.out (x21_2 : Int) (wrap64 ((rd x17_2 x21_2) + 1))
                go_wp2_with (first | ((with_reducible refine gate_store (t := 3) (p := 84) rfl ?_); refine store_event (t := 3) (p := 84) (v := ?vo_w28) (w1 := (wr.setCell ⟨go25, (x21_2 : Int).toNat, none⟩ (.int .i64 (wrap64 ((rd x17_2 x21_2) + 1))))) ?hg ?ho ?hn ?hr ?_; (case ho => rfl); (case hg => rfl); (case hn => rfl); (case hr => first | (go_simp; done) | (go_simp; rfl)); intro w28 hw; have hg : wr.grownBy w28 (some go25) := (by rw [hw]; exact HP27.2); have hp_ : Kd.R (Kd.int .i64) 3 w28 w.heap.size (fun k_ => some k_ ≠ (v200 : Value).ownBlock) (.slice (some ⟨go25, 0, none⟩) x17_2.length co26) y204 := (by rw [hw, Ny204.out]; exact HP27.1); clear HP27; have n0_ := Aside0.mk (hp_); have n1_ := Aside0.mk (Kd.R_after (v := (.slice (some ⟨go25, 0, none⟩) x17_2.length co26)) (v1 := (.slice (some ⟨go25, 0, none⟩) x17_2.length co26)) (ok := (fun _ => True)) (by (with_reducible repeat (first | apply Kd.R_alloc | apply Kd.R_drewN | apply Kd.R_drew)); exact Kd.R_mono HO_19.out (fun _ hk => ⟨trivial, hk⟩)) hg (.inl rfl)); have n2_ := Aside0.mk ((by rw [hw]; exact below_set (HB.out) GB25.out : Below w.heap.size w w28)); clear HO_17; clear HO_19; clear HB; have HO_17 := n0_; have HO_19 := n1_; have HB := n2_; clear n0_ n1_ n2_; clear hg hw hp_))
                go_roundg k2
                case measure => have := HJ10.out; have := HK2.out; omega
                case rel => exact ⟨(y204), (wrap64 (x21_2 + 1)), (by first | rfl | (simp; done) | (simp [*]; done)), H', ⟨by have := HJ10.out; have := HK2.out; omega⟩, ⟨by (with_reducible repeat (first | apply Kd.R_alloc | apply Kd.R_drewN | apply Kd.R_drew)); exact HO_17.out⟩, ⟨by (with_reducible repeat (first | apply Kd.R_alloc | apply Kd.R_drewN | apply Kd.R_drew)); exact Kd.R_mono HO_19.out (fun _ hk => hk.2)⟩, ⟨by repeat (first | (with_reducible first | exact HB.out | apply below_alloc | apply pw_below_drewN | apply below_drew1) | exact HB.out)⟩⟩
              · rw [if_neg c24] at H
                exact absurd H (by simp)
            · rw [if_neg c23] at H
              have c23b0 : decide (x21_2 < (x17_2.length : Int)) = false := decide_eq_false c23
              clear c23
              replace H := Option.bind_eq_some_iff.mp H
              obtain ⟨⟨t205, t206⟩, A290, H⟩ := H
              replace H : ((reedpiperef11_Same.f k2 t205 t198).bind fun t209 => (if t209 = true then (some (t206 == t199)) else (some false))) = some r := H
              have A29 := Aside0.mk A290
              clear A290
              replace H := Option.bind_eq_some_iff.mp H
              obtain ⟨t209, A300, H⟩ := H
              replace H : (if t209 = true then (some (t206 == t199)) else (some false)) = some r := H
              have A30 := Aside0.mk A300
              clear A300
              by_cases c31 : t209 = true
              · subst c31
                have H1 : (some (t206 == t199)) = some r := by rw [if_pos rfl] at H; exact H
                clear H
                have H := H1
                clear H1
                obtain rfl := Option.some.inj H
                obtain ⟨Ao32, co32, eo32⟩ := Kd.R_slice HO_17.out
                subst eo32
                go_wp2_with (first | ((with_reducible refine gate_callee (f := 9) rfl ?_); refine goesL_ (some 89) rfl rfl Try.func9 (by kernel_rfl) rfl #[.int .u32 a3, .int .i64 a4, .int .i64 a5] rfl (by (try simp only [List.map_toArray, List.map_cons, List.map_nil]); first | done | rfl | (simp only [List.length_drop, List.length_take]; rfl)) ?_; (with_reducible refine (noise_Band.calls a3 a4 a5 t205 t206 _ A29.out).mono ?_); rintro e w33 ⟨v207, rfl, ho0, hb⟩; refine ⟨_, rfl, ?_⟩; have n0_ := Aside0.mk (Kd.R_elder' (by (with_reducible repeat (first | apply Kd.R_alloc | apply Kd.R_drewN | apply Kd.R_drew)); exact HO_17.out) (Kd.R_base ho0) hb); have n1_ := Aside0.mk (Kd.R_elder' (by (with_reducible repeat (first | apply Kd.R_alloc | apply Kd.R_drewN | apply Kd.R_drew)); exact HO_19.out) (Kd.R_base ho0) hb); have n2_ := Aside0.mk (Kd.R_lower (Kd.R_new' (Kd.R_new' ho0 (Kd.R_lt (by (with_reducible repeat (first | apply Kd.R_alloc | apply Kd.R_drewN | apply Kd.R_drew)); exact HO_17.out))) (Kd.R_lt (by (with_reducible repeat (first | apply Kd.R_alloc | apply Kd.R_drewN | apply Kd.R_drew)); exact HO_19.out))) (below_size (by repeat (first | (with_reducible first | exact HB.out | apply below_alloc | apply pw_below_drewN | apply below_drew1) | exact HB.out)))); have n3_ := Aside0.mk (below_step (by repeat (first | (with_reducible first | exact HB.out | apply below_alloc | apply pw_below_drewN | apply below_drew1) | exact HB.out)) hb); clear HO_17; clear HO_19; clear HB; have HO_17 := n0_; have HO_19 := n1_; have HO208 := n2_; have HB := n3_; clear n0_ n1_ n2_ n3_; (try clear hb); (try clear hb2); (try clear hk); (try clear hi); (try clear ho0); obtain ⟨Ao34, co34, eo34⟩ := Kd.R_slice HO208.out; subst eo34; obtain ⟨Ao35, co35, eo35⟩ := Kd.R_slice HO_19.out; subst eo35) | ((with_reducible refine gate_callee (f := 14) rfl ?_); refine goesL_ (some 94) rfl rfl Try.func14 (by kernel_rfl) rfl #[.slice Ao34 t205.length co34, .slice Ao35 t198.length co35] rfl (by (try simp only [List.map_toArray, List.map_cons, List.map_nil]); first | done | rfl | (simp only [List.length_drop, List.length_take]; rfl)) ?_; (with_reducible refine (reedpiperef11_Same.calls k2 _ _ t205 _ _ t198 true _ ?side1 ?side2 ?side3 ?side4 A30.out).mono ?_); (case side1 => repeat (first | exact (Kd.R_reads' HO208.out).2.2 | (with_reducible refine Kd.C_alloc ?_ _) | (with_reducible refine Kd.C_drewN ?_ _) | (with_reducible refine Kd.C_drew ?_))); (case side2 => exact (Kd.R_reads' HO208.out).2.1); (case side3 => repeat (first | exact (Kd.R_reads' HO_19.out).2.2 | (with_reducible refine Kd.C_alloc ?_ _) | (with_reducible refine Kd.C_drewN ?_ _) | (with_reducible refine Kd.C_drew ?_))); (case side4 => exact (Kd.R_reads' HO_19.out).2.1); rintro e w' ⟨rfl, ⟨nd, rfl⟩⟩; refine ⟨_, rfl, ?_⟩))
                go_ret
                exact ⟨by first | rfl | (simp [errW_none, errW_some] <;> rfl) | (simp [*, errW_none, errW_some] <;> rfl), by repeat (first | (with_reducible first | exact HB.out | apply below_alloc | apply pw_below_drewN | apply below_drew1) | exact HB.out)⟩
              · replace c31 := Bool.eq_false_iff.mpr c31
                subst c31
                have H1 : (some false) = some r := by rw [if_neg (show ¬ (false = true) by decide)] at H; exact H
                clear H
                have H := H1
                clear H1
                obtain rfl := Option.some.inj H
                obtain ⟨Ao36, co36, eo36⟩ := Kd.R_slice HO_17.out
                subst eo36
                go_wp2_with (first | ((with_reducible refine gate_callee (f := 9) rfl ?_); refine goesL_ (some 89) rfl rfl Try.func9 (by kernel_rfl) rfl #[.int .u32 a3, .int .i64 a4, .int .i64 a5] rfl (by (try simp only [List.map_toArray, List.map_cons, List.map_nil]); first | done | rfl | (simp only [List.length_drop, List.length_take]; rfl)) ?_; (with_reducible refine (noise_Band.calls a3 a4 a5 t205 t206 _ A29.out).mono ?_); rintro e w37 ⟨v207, rfl, ho0, hb⟩; refine ⟨_, rfl, ?_⟩; have n0_ := Aside0.mk (Kd.R_elder' (by (with_reducible repeat (first | apply Kd.R_alloc | apply Kd.R_drewN | apply Kd.R_drew)); exact HO_17.out) (Kd.R_base ho0) hb); have n1_ := Aside0.mk (Kd.R_elder' (by (with_reducible repeat (first | apply Kd.R_alloc | apply Kd.R_drewN | apply Kd.R_drew)); exact HO_19.out) (Kd.R_base ho0) hb); have n2_ := Aside0.mk (Kd.R_lower (Kd.R_new' (Kd.R_new' ho0 (Kd.R_lt (by (with_reducible repeat (first | apply Kd.R_alloc | apply Kd.R_drewN | apply Kd.R_drew)); exact HO_17.out))) (Kd.R_lt (by (with_reducible repeat (first | apply Kd.R_alloc | apply Kd.R_drewN | apply Kd.R_drew)); exact HO_19.out))) (below_size (by repeat (first | (with_reducible first | exact HB.out | apply below_alloc | apply pw_below_drewN | apply below_drew1) | exact HB.out)))); have n3_ := Aside0.mk (below_step (by repeat (first | (with_reducible first | exact HB.out | apply below_alloc | apply pw_below_drewN | apply below_drew1) | exact HB.out)) hb); clear HO_17; clear HO_19; clear HB; have HO_17 := n0_; have HO_19 := n1_; have HO208 := n2_; have HB := n3_; clear n0_ n1_ n2_ n3_; (try clear hb); (try clear hb2); (try clear hk); (try clear hi); (try clear ho0); obtain ⟨Ao38, co38, eo38⟩ := Kd.R_slice HO208.out; subst eo38; obtain ⟨Ao39, co39, eo39⟩ := Kd.R_slice HO_19.out; subst eo39) | ((with_reducible refine gate_callee (f := 14) rfl ?_); refine goesL_ (some 94) rfl rfl Try.func14 (by kernel_rfl) rfl #[.slice Ao38 t205.length co38, .slice Ao39 t198.length co39] rfl (by (try simp only [List.map_toArray, List.map_cons, List.map_nil]); first | done | rfl | (simp only [List.length_drop, List.length_take]; rfl)) ?_; (with_reducible refine (reedpiperef11_Same.calls k2 _ _ t205 _ _ t198 false _ ?side1 ?side2 ?side3 ?side4 A30.out).mono ?_); (case side1 => repeat (first | exact (Kd.R_reads' HO208.out).2.2 | (with_reducible refine Kd.C_alloc ?_ _) | (with_reducible refine Kd.C_drewN ?_ _) | (with_reducible refine Kd.C_drew ?_))); (case side2 => exact (Kd.R_reads' HO208.out).2.1); (case side3 => repeat (first | exact (Kd.R_reads' HO_19.out).2.2 | (with_reducible refine Kd.C_alloc ?_ _) | (with_reducible refine Kd.C_drewN ?_ _) | (with_reducible refine Kd.C_drew ?_))); (case side4 => exact (Kd.R_reads' HO_19.out).2.1); rintro e w' ⟨rfl, ⟨nd, rfl⟩⟩; refine ⟨_, rfl, ?_⟩))
                go_ret
                exact ⟨by first | rfl | (simp [errW_none, errW_some] <;> rfl) | (simp [*, errW_none, errW_some] <;> rfl), by repeat (first | (with_reducible first | exact HB.out | apply below_alloc | apply pw_below_drewN | apply below_drew1) | exact HB.out)⟩

/-- THE ONE PURE STATEMENT of reedpipelaw16_NoiseDoes: yours. -/
def reedpipelaw16_NoiseDoes.Pure : Prop := ∀ (a0 : Int) (a1 : Int) (a2 : Int) (a3 : Int) (a4 : Int) (a5 : Int), (Lit.int .i64 a0).wf = true → (Lit.int .i64 a1).wf = true → (Lit.int .i64 a2).wf = true → (Lit.int .u32 a3).wf = true → (Lit.int .i64 a4).wf = true → (Lit.int .i64 a5).wf = true → ∃ k, reedpipelaw16_NoiseDoes.f k a0 a1 a2 a3 a4 a5 = some true
theorem reedpipelaw16_NoiseDoes.walk (P : reedpipelaw16_NoiseDoes.Pure) (a0 : Int) (a1 : Int) (a2 : Int) (a3 : Int) (a4 : Int) (a5 : Int) (w : World) (w0 : (Lit.int .i64 a0).wf = true) (w1 : (Lit.int .i64 a1).wf = true) (w2 : (Lit.int .i64 a2).wf = true) (w3 : (Lit.int .u32 a3).wf = true) (w4 : (Lit.int .i64 a4).wf = true) (w5 : (Lit.int .i64 a5).wf = true) :
    Calls Try.prog 6 #[.int .i64 a0, .int .i64 a1, .int .i64 a2, .int .u32 a3, .int .i64 a4, .int .i64 a5] w fun e w' => e = .returned (.bool true) ∧ Below w.heap.size w w' := by
  obtain ⟨k, h⟩ := P a0 a1 a2 a3 a4 a5 w0 w1 w2 w3 w4 w5
  refine (reedpipelaw16_NoiseDoes.calls k a0 a1 a2 a3 a4 a5 true w h).mono ?_
  rintro e w' ⟨rfl, hd⟩
  exact ⟨rfl, hd⟩

end Go.Proofs.Ythlodaeodakomac.PrintN
