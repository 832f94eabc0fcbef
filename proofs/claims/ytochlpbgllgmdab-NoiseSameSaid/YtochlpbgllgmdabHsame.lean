/-
  The walk of the statement NoiseSame: it returns true whatever the seed, the steps and the bands.
-/
import Derived.Test.YtochlpbgllgmdabPrintS4
import Derived.Test.YtochlpbgllgmdabPrintS5
import Derived.Test.YtochlpbgllgmdabM3
import Derived.Deep.RegionWith
import Derived.OpenShut
import Derived.ChangeKeysEq
namespace Go.Proofs.Ytochlpbgllgmdab
open Go.RowKit Go.ChangeShapes Go.WideShapes Go.Proofs.YtochlpbgllgmdabW.PrintWords Go.Proofs.YtochlpbgllgmdabW.PrintLast Go.Proofs.YtochlpbgllgmdabW.PrintMore PrintS

theorem alive_true : reedpipelaw16_alive.f 30 = some true := by decide +kernel

/-- Two arrays in memory. -/
theorem arrs (w w3 : World) (a0 a1 a2 b0 b1 b2 : Int)
    (h : Below ((w.alloc (.cells #[.int .i64 a0, .int .i64 a1, .int .i64 a2] 23)).alloc (.cells #[.int .i64 b0, .int .i64 b1, .int .i64 b2] 23)).heap.size ((w.alloc (.cells #[.int .i64 a0, .int .i64 a1, .int .i64 a2] 23)).alloc (.cells #[.int .i64 b0, .int .i64 b1, .int .i64 b2] 23)) w3) :
    w3.cell? ⟨w.heap.size, 0, none⟩ = some (.int .i64 a0) ∧ w3.cell? ⟨w.heap.size, 1, none⟩ = some (.int .i64 a1) ∧ w3.cell? ⟨w.heap.size, 2, none⟩ = some (.int .i64 a2) ∧
    w3.cell? ⟨w.heap.size + 1, 0, none⟩ = some (.int .i64 b0) ∧ w3.cell? ⟨w.heap.size + 1, 1, none⟩ = some (.int .i64 b1) ∧ w3.cell? ⟨w.heap.size + 1, 2, none⟩ = some (.int .i64 b2) := by
  refine ⟨?_, ?_, ?_, ?_, ?_, ?_⟩
  all_goals
    refine (h.cell (by simp <;> omega)).trans ?_
    go_simp

theorem eq3 (a0 a1 a2 b0 b1 b2 : Int) (w : World) :
    Sem.run Try.prog (Op.equalIn 10000 23 (.agg #[.int .i64 a0, .int .i64 a1, .int .i64 a2]) (.agg #[.int .i64 b0, .int .i64 b1, .int .i64 b2])) w = .ok (a0 == b0 && (a1 == b1 && a2 == b2)) w := by
  have hu : Try.prog.underlying 23 = some (.array 3 3) := by kernel_rfl
  obtain ⟨i, hi⟩ : ∃ i, Try.prog.info? 3 = some i := Option.isSome_iff_exists.mp (by kernel_rfl)
  have hc : Try.prog.cellsOf 3 = 1 := by kernel_rfl
  have hr := run_equalIn_array (P := Try.prog) (w := w) 9999 #[.int .i64 a0, .int .i64 a1, .int .i64 a2] #[.int .i64 b0, .int .i64 b1, .int .i64 b2] hu hi
  refine hr.trans ?_
  rw [hc, show List.range 3 = [0, 1, 2] from rfl]
  have he : ∀ x y : Int, Sem.run Try.prog (Op.equalIn 9999 3 (.int .i64 x) (.int .i64 y)) w = .ok (x == y) w := fun x y => run_equalIn_int w 9998 3 .i64 .i64 x y (by kernel_rfl)
  have p0 : ∀ x y z : Int, Sem.run Try.prog (part 3 #[.int .i64 x, .int .i64 y, .int .i64 z] 0) w = .ok (.int .i64 x) w := fun x y z => by kernel_rfl
  have p1 : ∀ x y z : Int, Sem.run Try.prog (part 3 #[.int .i64 x, .int .i64 y, .int .i64 z] 1) w = .ok (.int .i64 y) w := fun x y z => by kernel_rfl
  have p2 : ∀ x y z : Int, Sem.run Try.prog (part 3 #[.int .i64 x, .int .i64 y, .int .i64 z] 2) w = .ok (.int .i64 z) w := fun x y z => by kernel_rfl
  simp only [Op.eqItems, Nat.mul_one, Sem.run_bind, p0, he, Result.andThen_ok]
  cases h0 : (a0 == b0)
  · simp
  · simp only [Bool.not_true, Bool.false_eq_true, if_false, Sem.run_bind, p1, he, Result.andThen_ok]
    cases h1 : (a1 == b1)
    · simp
    · simp only [Bool.not_true, Bool.false_eq_true, if_false, Sem.run_bind, p2, he, Result.andThen_ok]
      cases h2 : (a2 == b2) <;> simp

set_option maxRecDepth 100000 in
set_option maxHeartbeats 2000000 in
theorem same_skip (s one two few many a0 a1 a2 b0 b1 b2 e1 e2 : Int) (X Y : List Int) (w : World) (HX : noise_Band.f s one few = some (X, e1)) (HY : noise_Band.f s two many = some (Y, e2))
    (he : (e1 == 0) = false ∨ (e1 = 0 ∧ (e2 == 0) = false)) (sa ga : Int) (HG : noise_Seed.f a0 a1 a2 = some (sa, ga)) (sb gb : Int) (HH : noise_Seed.f b0 b1 b2 = some (sb, gb)) (B : Bool)
    (hg3 : (ga != 0) = true ∨ (ga = 0 ∧ (gb != 0) = true) ∨ (ga = 0 ∧ gb = 0 ∧ (sa == sb) = B ∧ (a0 == b0 && (a1 == b1 && a2 == b2)) = B)) :
    Calls Try.prog 3 #[.int .u32 s, .int .i64 one, .int .i64 two, .int .i64 few, .int .i64 many, .agg #[.int .i64 a0, .int .i64 a1, .int .i64 a2], .agg #[.int .i64 b0, .int .i64 b1, .int .i64 b2]] w
      fun e w' => e = .returned (.bool true) ∧ Below w.heap.size w w' := by
  have hx := Lib.hid HX
  have hy := Lib.hid HY
  have hg := Lib.hid HG
  have hh := Lib.hid HH
  have h3 := eq3 a0 a1 a2 b0 b1 b2
  clear HX HY HG HH
  rcases he with he | ⟨rfl, he⟩
  all_goals
    rcases hg3 with hg3 | ⟨rfl, hg3⟩ | ⟨rfl, rfl, hg3, hg4⟩
  all_goals
    (try rw [hg4] at h3)
    (try clear hg4)
    go_enter Try.func3, Try.ntmps3
    go_wp2_with (first
      | (go_at_call 4; refine (reedpipelaw16_alive.calls 30 true _ alive_true).mono ?_; rintro e w1 ⟨rfl, hb1⟩)
      | (go_at_call_of 5 one; refine (noise_Band.calls s one few X _ _ hx.out).mono ?_; rintro e w2 ⟨v1, rfl, hR1, hb2⟩)
      | (go_at_call_of 5 two; refine (noise_Band.calls s two many Y _ _ hy.out).mono ?_; rintro e w3 ⟨v2, rfl, hR2, hb3⟩; obtain ⟨k0, k1, k2, k3, k4, k5⟩ := arrs w w3 a0 a1 a2 b0 b1 b2 (below_step (below_step hb1 hb2) hb3))
      | (go_at_call_of 6 a0; refine (noise_Seed.calls a0 a1 a2 sa _ _ hg.out).mono ?_; rintro e w4 ⟨rfl, ⟨n4, rfl⟩⟩)
      | (go_at_call_of 6 b0; refine (noise_Seed.calls b0 b1 b2 sb _ _ hh.out).mono ?_; rintro e w5 ⟨rfl, ⟨n5, rfl⟩⟩))
    go_ret
    exact ⟨rfl, pw_below_drewN (below_step (below_step (below_step (below_alloc (below_alloc (Below.refl _ _) _) _) hb1) hb2) hb3) _⟩
set_option maxRecDepth 100000 in
set_option maxHeartbeats 2000000 in
theorem same_short (s one two few many a0 a1 a2 b0 b1 b2 : Int) (X Y : List Int) (w : World) (HX : noise_Band.f s one few = some (X, 0)) (HY : noise_Band.f s two many = some (Y, 0))
    (hz : X = [] ∨ Y = []) (sa ga : Int) (HG : noise_Seed.f a0 a1 a2 = some (sa, ga)) (sb gb : Int) (HH : noise_Seed.f b0 b1 b2 = some (sb, gb)) (B : Bool)
    (hg3 : (ga != 0) = true ∨ (ga = 0 ∧ (gb != 0) = true) ∨ (ga = 0 ∧ gb = 0 ∧ (sa == sb) = B ∧ (a0 == b0 && (a1 == b1 && a2 == b2)) = B)) :
    Calls Try.prog 3 #[.int .u32 s, .int .i64 one, .int .i64 two, .int .i64 few, .int .i64 many, .agg #[.int .i64 a0, .int .i64 a1, .int .i64 a2], .agg #[.int .i64 b0, .int .i64 b1, .int .i64 b2]] w
      fun e w' => e = .returned (.bool true) ∧ Below w.heap.size w w' := by
  have hx := Lib.hid HX
  have hy := Lib.hid HY
  have hg := Lib.hid HG
  have hh := Lib.hid HH
  have h3 := eq3 a0 a1 a2 b0 b1 b2
  clear HX HY HG HH
  rcases hz with rfl | rfl
  all_goals
    rcases hg3 with hg3 | ⟨rfl, hg3⟩ | ⟨rfl, rfl, hg3, hg4⟩
  all_goals
    (try rw [hg4] at h3)
    (try clear hg4)
    go_enter Try.func3, Try.ntmps3
    go_wp2_with (first
      | (go_at_call 4; refine (reedpipelaw16_alive.calls 30 true _ alive_true).mono ?_; rintro e w1 ⟨rfl, hb1⟩)
      | (go_at_call_of 5 one; refine (noise_Band.calls s one few _ _ _ hx.out).mono ?_; rintro e w2 ⟨v1, rfl, hR1, hb2⟩; obtain ⟨A1, c1, rfl⟩ := Kd.R_slice hR1; have HR1 := Aside0.mk hR1; clear hR1)
      | (go_at_call_of 5 two; refine (noise_Band.calls s two many _ _ _ hy.out).mono ?_; rintro e w3 ⟨v2, rfl, hR2, hb3⟩; obtain ⟨k0, k1, k2, k3, k4, k5⟩ := arrs w w3 a0 a1 a2 b0 b1 b2 (below_step (below_step hb1 hb2) hb3); obtain ⟨A2, c2, rfl⟩ := Kd.R_slice hR2; have HR2 := Aside0.mk hR2; clear hR2))
    go_loopw [20] (fun v20 wr => v20 = .int .i64 0 ∧ wr = w3) (fun _ _ => 0)
    case atStart => exact ⟨rfl, rfl⟩
    case round =>
      obtain ⟨rfl, rfl⟩ := hrel
      go_wp2_with (first
      | (go_at_call_of 6 a0; refine (noise_Seed.calls a0 a1 a2 sa _ _ hg.out).mono ?_; rintro e w4 ⟨rfl, ⟨n4, rfl⟩⟩)
      | (go_at_call_of 6 b0; refine (noise_Seed.calls b0 b1 b2 sb _ _ hh.out).mono ?_; rintro e w5 ⟨rfl, ⟨n5, rfl⟩⟩))
      all_goals go_ret
      all_goals exact ⟨rfl, pw_below_drewN (below_step (below_step (below_step (below_alloc (below_alloc (Below.refl _ _) _) _) hb1) hb2) hb3) _⟩
/-- The signs of two lists' numbers are not against each other. -/
def sgn (X Y : List Int) : Prop := ∀ k : Nat, k < X.length → k < Y.length → ¬ (0 < rd X k ∧ rd Y k < 0) ∧ ¬ (rd X k < 0 ∧ 0 < rd Y k)

set_option maxRecDepth 100000 in
set_option maxHeartbeats 4000000 in
theorem same_loop (s one two few many a0 a1 a2 b0 b1 b2 : Int) (X Y : List Int) (w : World) (HX : noise_Band.f s one few = some (X, 0)) (HY : noise_Band.f s two many = some (Y, 0))
    (hX0 : 0 < X.length) (hY0 : 0 < Y.length) (hX1 : X.length ≤ 256) (_ : Y.length ≤ 256) (hsg : sgn X Y) (sa ga : Int) (HG : noise_Seed.f a0 a1 a2 = some (sa, ga)) (sb gb : Int) (HH : noise_Seed.f b0 b1 b2 = some (sb, gb)) (B : Bool)
    (hg3 : (ga != 0) = true ∨ (ga = 0 ∧ (gb != 0) = true) ∨ (ga = 0 ∧ gb = 0 ∧ (sa == sb) = B ∧ (a0 == b0 && (a1 == b1 && a2 == b2)) = B)) :
    Calls Try.prog 3 #[.int .u32 s, .int .i64 one, .int .i64 two, .int .i64 few, .int .i64 many, .agg #[.int .i64 a0, .int .i64 a1, .int .i64 a2], .agg #[.int .i64 b0, .int .i64 b1, .int .i64 b2]] w
      fun e w' => e = .returned (.bool true) ∧ Below w.heap.size w w' := by
  have hx := Lib.hid HX
  have hy := Lib.hid HY
  have hg := Lib.hid HG
  have hh := Lib.hid HH
  have h3 := eq3 a0 a1 a2 b0 b1 b2
  clear HX HY HG HH
  have hx0 := Lib.hid hX0
  have hy0 := Lib.hid hY0
  have HSG := Lib.hid hsg
  clear hX0 hY0 hsg
  rcases hg3 with hg3 | ⟨rfl, hg3⟩ | ⟨rfl, rfl, hg3, hg4⟩
  all_goals
    (try rw [hg4] at h3)
    (try clear hg4)
    go_enter Try.func3, Try.ntmps3
    go_wp2_with (first
      | (go_at_call 4; refine (reedpipelaw16_alive.calls 30 true _ alive_true).mono ?_; rintro e w1 ⟨rfl, hb1⟩)
      | (go_at_call_of 5 one; refine (noise_Band.calls s one few _ _ _ hx.out).mono ?_; rintro e w2 ⟨v1, rfl, hR1, hb2⟩; obtain ⟨g1, c1, rfl, hg1, _⟩ := Kd.R_form hR1 hx0.out; have HR1 := Aside0.mk hR1; clear hR1)
      | (go_at_call_of 5 two; refine (noise_Band.calls s two many _ _ _ hy.out).mono ?_; rintro e w3 ⟨v2, rfl, hR2, hb3⟩; obtain ⟨k0, k1, k2, k3, k4, k5⟩ := arrs w w3 a0 a1 a2 b0 b1 b2 (below_step (below_step hb1 hb2) hb3); obtain ⟨g2, c2, rfl, hg2, _⟩ := Kd.R_form hR2 hy0.out; have HR2 := Aside0.mk hR2; have HR3 := Aside0.mk (Kd.R_below HR1.out hb3); clear hR2 HR1))
    go_loopw [20] (fun v20 wr => ∃ k : Nat, k ≤ X.length ∧ k ≤ Y.length ∧ v20 = .int .i64 k ∧ wr = w3) (fun v20 _ => X.length - (intOf v20).toNat)
    case atStart => exact ⟨0, Nat.zero_le _, Nat.zero_le _, rfl, rfl⟩
    case round =>
      obtain ⟨k, hk1, hk2, rfl, hwr⟩ := hrel
      subst hwr
      by_cases hlt : k < X.length ∧ k < Y.length
      · obtain ⟨hl1, hl2⟩ := hlt
        have i0 : (0 : Int) ≤ (k : Int) := by omega
        have i1 : (k : Int) < (X.length : Int) := by omega
        have i2 : (k : Int) < (Y.length : Int) := by omega
        have cx := (Kd.R_celln 0 HR3.out (k : Int) i0 i1).1
        have cy := (Kd.R_celln 0 HR2.out (k : Int) i0 i2).1
        rw [Int.toNat_natCast] at cx cy
        obtain ⟨x, hx⟩ : ∃ x, x = rd X k := ⟨_, rfl⟩
        obtain ⟨y, hy⟩ : ∃ y, y = rd Y k := ⟨_, rfl⟩
        have hs := HSG.out k hl1 hl2
        rw [← hx, ← hy] at hs
        have cx2 : wr.cell? ⟨g1, k, none⟩ = some (.int .i64 x) := by rw [hx]; exact cx
        have cy2 : wr.cell? ⟨g2, k, none⟩ = some (.int .i64 y) := by rw [hy]; exact cy
        clear cx cy hx hy
        have hcase : (0 < x ∧ 0 ≤ y) ∨ (x < 0 ∧ y ≤ 0) ∨ (0 ≤ x ∧ x ≤ 0) := by omega
        clear hs
        rcases hcase with ⟨hx0, hy0⟩ | ⟨hx0, hy0⟩ | ⟨hx0, hx1⟩
        all_goals
          go_wp2
          go_roundw
          case rel => exact ⟨k + 1, by omega, by omega, by go_num, by first | rfl | trivial⟩
          case measure => simp [intOf]; omega
      · have hge : X.length ≤ k ∨ Y.length ≤ k := by omega
        clear hlt
        rcases hge with hge | hge
        all_goals
          go_wp2_with (first
            | (go_at_call_of 6 a0; refine (noise_Seed.calls a0 a1 a2 sa _ _ hg.out).mono ?_; rintro e w4 ⟨rfl, ⟨n4, rfl⟩⟩)
            | (go_at_call_of 6 b0; refine (noise_Seed.calls b0 b1 b2 sb _ _ hh.out).mono ?_; rintro e w5 ⟨rfl, ⟨n5, rfl⟩⟩))
          all_goals go_ret
          all_goals exact ⟨rfl, pw_below_drewN (below_step (below_step (below_step (below_alloc (below_alloc (Below.refl _ _) _) _) hb1) hb2) hb3) _⟩

theorem nl_up {a d v : Int} (ha : 0 ≤ a) (hv : 0 ≤ v) : 0 ≤ nl a d v := by
  unfold nl
  split
  · have := Int.mul_nonneg hv ha
    exact Int.ediv_nonneg (by omega) (by omega)
  · omega
theorem nl_down {a d v : Int} (ha : 0 ≤ a) (hv : v ≤ 0) : nl a d v ≤ 0 := by
  unfold nl
  split
  · have h := Int.mul_nonneg (show 0 ≤ -v by omega) ha
    rw [Int.neg_mul] at h
    have : (2 * (v * a * 256) + d) / (2 * d) < 1 := (Int.ediv_lt_iff_lt_mul (by omega)).mpr (by omega)
    omega
  · omega
theorem rd_draw (s : Int) (m k : Nat) (h : k < m) : rd (draws m s) k = drw (sd (k + 1) s) := by
  unfold rd draws
  rw [Int.toNat_natCast, List.getD_eq_getElem?_getD, List.getElem?_map, List.getElem?_range h]
  rfl
theorem rd_mapped (f : Int → Int) (l : List Int) (i : Nat) (h : i < l.length) : rd (l.map f) i = f (rd l i) := by
  unfold rd
  rw [Int.toNat_natCast, List.getD_eq_getElem?_getD, List.getD_eq_getElem?_getD, List.getElem?_map, List.getElem?_eq_getElem h]
  rfl
theorem bandl_len (s step : Int) (m : Nat) : (bandl s step m).length = m := by unfold bandl; rw [List.length_map, draws_length]
theorem one_pos (step : Int) : 0 ≤ ln 1 (mn step 255) := by
  unfold ln
  rw [if_neg (by omega)]
  exact (ln0_bd 1 _ (by omega) (by omega)).1
theorem sgn_band (s one two : Int) (m n : Nat) : sgn (bandl s one m) (bandl s two n) := by
  intro k hk1 hk2
  rw [bandl_len] at hk1 hk2
  have e1 : rd (bandl s one m) k = nl (ln 1 (mn one 255)) (isq (ssq (draws m s) * 65536)) (drw (sd (k + 1) s)) := by
    unfold bandl; rw [rd_mapped _ _ _ (by rw [draws_length]; exact hk1), rd_draw s m k hk1]
  have e2 : rd (bandl s two n) k = nl (ln 1 (mn two 255)) (isq (ssq (draws n s) * 65536)) (drw (sd (k + 1) s)) := by
    unfold bandl; rw [rd_mapped _ _ _ (by rw [draws_length]; exact hk2), rd_draw s n k hk2]
  rw [e1, e2]
  have p1 := one_pos one
  have p2 := one_pos two
  rcases Int.le_total 0 (drw (sd (k + 1) s)) with hv | hv
  · have q1 := nl_up (d := isq (ssq (draws m s) * 65536)) p1 hv
    have q2 := nl_up (d := isq (ssq (draws n s) * 65536)) p2 hv
    exact ⟨fun h => by omega, fun h => by omega⟩
  · have q1 := nl_down (d := isq (ssq (draws m s) * 65536)) p1 hv
    have q2 := nl_down (d := isq (ssq (draws n s) * 65536)) p2 hv
    exact ⟨fun h => by omega, fun h => by omega⟩

/-- What a band comes to. -/
theorem band_is (s step many : Int) (hs : 0 ≤ s ∧ s ≤ 4294967295) : (∃ e, noise_Band.f s step many = some ([], e) ∧ (e == 0) = false) ∨ (0 ≤ step ∧ ∃ m : Nat, m ≤ 256 ∧ noise_Band.f s step many = some (bandl s step m, 0)) := by
  unfold noise_Band.f
  rw [if_pos (by omega)]
  by_cases h : step < 0 ∨ 511 < step
  · rw [if_pos h]; exact .inl ⟨2, rfl, rfl⟩
  · rw [if_neg h]
    by_cases h2 : many < 0 ∨ 256 < many
    · rw [if_pos h2]; exact .inl ⟨4, rfl, rfl⟩
    · rw [if_neg h2]; exact .inr ⟨by omega, many.toNat, by omega, rfl⟩

def seedOk (g v b : Int) : Prop := 0 ≤ g ∧ g ≤ 255 ∧ 0 ≤ v ∧ v < 8 ∧ 0 ≤ b ∧ b ≤ 511
theorem seed_is (g v b : Int) : (∃ s, noise_Seed.f g v b = some (s, 2)) ∨ (seedOk g v b ∧ noise_Seed.f g v b = some (((g * 4096 + v * 512 + b) * 2654435761) % 4294967296, 0)) := by
  unfold noise_Seed.f seedOk
  repeat' split
  all_goals first
    | exact .inl ⟨_, rfl⟩
    | skip
  refine .inr ⟨by omega, ?_⟩
  rw [show wrap64 (g * 4096) = g * 4096 from by unfold wrap64; omega, show wrap64 (v * 512) = v * 512 from by unfold wrap64; omega,
    show wrap64 (g * 4096 + v * 512) = g * 4096 + v * 512 from by unfold wrap64; omega, show wrap64 (g * 4096 + v * 512 + b) = g * 4096 + v * 512 + b from by unfold wrap64; omega,
    show (g * 4096 + v * 512 + b) % 4294967296 = g * 4096 + v * 512 + b from by omega]

theorem inj0 {d q : Int} (h : d * 2654435761 = 4294967296 * q) : ∃ m : Int, d = 4294967296 * m := by
  have e : d * (2654435761 * 244002641) = 4294967296 * (q * 244002641) := by rw [← Int.mul_assoc, h, Int.mul_assoc]
  have k : (2654435761 * 244002641 : Int) = 1 + 4294967296 * 150801925 := by decide
  rw [k, Int.mul_add, Int.mul_one] at e
  refine ⟨q * 244002641 - d * 150801925, ?_⟩
  rw [Int.mul_sub, ← e, Int.mul_left_comm]
  generalize d * (4294967296 * 150801925) = z
  omega
theorem odd_inj {t u : Int} (ht0 : 0 ≤ t) (ht : t < 1048576) (hu0 : 0 ≤ u) (hu : u < 1048576) (h : (t * 2654435761) % 4294967296 = (u * 2654435761) % 4294967296) : t = u := by
  have h1 := Int.mul_ediv_add_emod (t * 2654435761) 4294967296
  have h2 := Int.mul_ediv_add_emod (u * 2654435761) 4294967296
  rw [h] at h1
  clear h
  generalize t * 2654435761 / 4294967296 = x at h1
  generalize u * 2654435761 / 4294967296 = y at h2
  generalize u * 2654435761 % 4294967296 = z at h1 h2
  have e1 : (t - u) * 2654435761 = t * 2654435761 - u * 2654435761 := Int.sub_mul ..
  generalize t * 2654435761 = p at h1 e1
  generalize u * 2654435761 = q at h2 e1
  obtain ⟨m, hm⟩ := inj0 (d := t - u) (q := x - y) (by rw [e1]; omega)
  clear h1 h2 e1
  omega

theorem seeds_differ (a0 a1 a2 b0 b1 b2 : Int) (ox : seedOk a0 a1 a2) (oy : seedOk b0 b1 b2) :
    (a0 == b0 && (a1 == b1 && a2 == b2)) = ((a0 * 4096 + a1 * 512 + a2) * 2654435761 % 4294967296 == (b0 * 4096 + b1 * 512 + b2) * 2654435761 % 4294967296) := by
  unfold seedOk at ox oy
  have p1 : 0 ≤ a0 * 4096 + a1 * 512 + a2 := by omega
  have p2 : a0 * 4096 + a1 * 512 + a2 < 1048576 := by omega
  have p3 : 0 ≤ b0 * 4096 + b1 * 512 + b2 := by omega
  have p4 : b0 * 4096 + b1 * 512 + b2 < 1048576 := by omega
  by_cases h : (a0 * 4096 + a1 * 512 + a2) * 2654435761 % 4294967296 = (b0 * 4096 + b1 * 512 + b2) * 2654435761 % 4294967296
  · have e := odd_inj (t := a0 * 4096 + a1 * 512 + a2) (u := b0 * 4096 + b1 * 512 + b2) p1 p2 p3 p4 h
    clear h
    rw [show a0 = b0 from by omega, show a1 = b1 from by omega, show a2 = b2 from by omega]
    rw [beq_self_eq_true, beq_self_eq_true, beq_self_eq_true, beq_self_eq_true]
    rfl
  · rw [beq_eq_false_iff_ne.mpr h, Bool.eq_false_iff]
    intro hc
    rw [Bool.and_eq_true, Bool.and_eq_true, beq_iff_eq, beq_iff_eq, beq_iff_eq] at hc
    obtain ⟨rfl, rfl, rfl⟩ := hc
    exact h rfl

theorem walk_same (s one two few many a0 a1 a2 b0 b1 b2 : Int) (w : World) (hs : (Lit.int .u32 s).wf = true) :
    Calls Try.prog 3 #[.int .u32 s, .int .i64 one, .int .i64 two, .int .i64 few, .int .i64 many, .agg #[.int .i64 a0, .int .i64 a1, .int .i64 a2], .agg #[.int .i64 b0, .int .i64 b1, .int .i64 b2]] w
      fun e w' => e = .returned (.bool true) ∧ Below w.heap.size w w' := by
  have hs' := bounds_u32 hs
  obtain ⟨sa, ga, sb, gb, B, HG, HH, h3⟩ : ∃ sa ga sb gb B, noise_Seed.f a0 a1 a2 = some (sa, ga) ∧ noise_Seed.f b0 b1 b2 = some (sb, gb) ∧
      ((ga != 0) = true ∨ (ga = 0 ∧ (gb != 0) = true) ∨ (ga = 0 ∧ gb = 0 ∧ (sa == sb) = B ∧ (a0 == b0 && (a1 == b1 && a2 == b2)) = B)) := by
    rcases seed_is a0 a1 a2 with ⟨x, hx⟩ | ⟨ox, hx⟩
    · rcases seed_is b0 b1 b2 with ⟨y, hy⟩ | ⟨oy, hy⟩
      · exact ⟨_, _, _, _, true, hx, hy, .inl rfl⟩
      · exact ⟨_, _, _, _, true, hx, hy, .inl rfl⟩
    · rcases seed_is b0 b1 b2 with ⟨y, hy⟩ | ⟨oy, hy⟩
      · exact ⟨_, _, _, _, true, hx, hy, .inr (.inl ⟨rfl, rfl⟩)⟩
      · exact ⟨_, _, _, _, _, hx, hy, .inr (.inr ⟨rfl, rfl, rfl, seeds_differ a0 a1 a2 b0 b1 b2 ox oy⟩)⟩
  rcases band_is s one few hs' with ⟨e, hx, he⟩ | ⟨p1, m, hm, hx⟩
  · rcases band_is s two many hs' with ⟨e', hy, he'⟩ | ⟨p2, n, hn, hy⟩
    · exact same_skip s one two few many a0 a1 a2 b0 b1 b2 e e' _ _ w hx hy (.inl he) sa ga HG sb gb HH B h3
    · exact same_skip s one two few many a0 a1 a2 b0 b1 b2 e 0 _ _ w hx hy (.inl he) sa ga HG sb gb HH B h3
  · rcases band_is s two many hs' with ⟨e', hy, he'⟩ | ⟨p2, n, hn, hy⟩
    · exact same_skip s one two few many a0 a1 a2 b0 b1 b2 0 e' _ _ w hx hy (.inr ⟨rfl, he'⟩) sa ga HG sb gb HH B h3
    · by_cases hm0 : m = 0
      · exact same_short s one two few many a0 a1 a2 b0 b1 b2 _ _ w hx hy (.inl (by rw [hm0]; rfl)) sa ga HG sb gb HH B h3
      · by_cases hn0 : n = 0
        · exact same_short s one two few many a0 a1 a2 b0 b1 b2 _ _ w hx hy (.inr (by rw [hn0]; rfl)) sa ga HG sb gb HH B h3
        · exact same_loop s one two few many a0 a1 a2 b0 b1 b2 _ _ w hx hy (by rw [bandl_len]; omega) (by rw [bandl_len]; omega) (by rw [bandl_len]; omega) (by rw [bandl_len]; omega) (sgn_band s one two m n) sa ga HG sb gb HH B h3
end Go.Proofs.Ytochlpbgllgmdab
