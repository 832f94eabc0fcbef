/-
  The contract of noise.Band.
-/
import Derived.Test.YtochlpbgllgmdabGn
import Derived.Test.YtochlpbgllgmdabGs
import Derived.Test.YtochlpbgllgmdabGl
namespace Go.Proofs.Ytochlpbgllgmdab
open Go.RowKit Go.Proofs.YtochlpbgllgmdabW.PrintWords Go.Proofs.YtochlpbgllgmdabW.PrintLast Go.Proofs.YtochlpbgllgmdabW.PrintMore
attribute [local go_sem] max2_int min2_int max_two min_two

set_option maxRecDepth 100000 in
set_option maxHeartbeats 400000 in
theorem per_x (a b : Int) (h0 : -1152921504606846976 ≤ a) (h1 : a ≤ 1152921504606846976) (h2 : 0 < b) (h3 : b ≤ 4611686018427387903) (w : World) :
    Calls Try.prog 11 #[.int .i64 a, .int .i64 b] w fun e w' => e = .returned (.int .i64 ((2 * a + b) / (2 * b))) ∧ w' = w := by
  by_cases h : 0 ≤ 2 * a + b
  · have t1 : Int.tdiv (2 * a + b) (2 * b) = (2 * a + b) / (2 * b) := Int.tdiv_eq_ediv_of_nonneg h
    have t2 : Int.tmod (2 * a + b) (2 * b) = (2 * a + b) % (2 * b) := Int.tmod_eq_emod_of_nonneg h
    have q0 := Int.emod_nonneg (2 * a + b) (show 2 * b ≠ 0 by omega)
    have q1 := Int.ediv_nonneg h (show 0 ≤ 2 * b by omega)
    have q2 := Int.ediv_le_self (a := 2 * a + b) (2 * b) h
    go_enter Try.func11, Try.ntmps11
    go_wp2
    go_ret
    exact ⟨rfl, rfl⟩
  · obtain ⟨e, he⟩ : ∃ e, e = (-(2 * a + b)) / (2 * b) := ⟨_, rfl⟩
    obtain ⟨r, hr⟩ : ∃ r, r = (-(2 * a + b)) % (2 * b) := ⟨_, rfl⟩
    have t1 : Int.tdiv (2 * a + b) (2 * b) = -e := by
      have := Int.neg_tdiv (-(2 * a + b)) (2 * b)
      rw [Int.neg_neg] at this
      rw [this, Int.tdiv_eq_ediv_of_nonneg (by omega), he]
    have t2 : Int.tmod (2 * a + b) (2 * b) = -r := by
      have := Int.neg_tmod (-(2 * a + b)) (2 * b)
      rw [Int.neg_neg] at this
      rw [this, Int.tmod_eq_emod_of_nonneg (by omega), hr]
    have q0 : 0 ≤ r := by rw [hr]; exact Int.emod_nonneg _ (by omega)
    have q1 : r < 2 * b := by rw [hr]; exact Int.emod_lt_of_pos _ (by omega)
    have q2 : 2 * b * e + r = -(2 * a + b) := by rw [he, hr]; exact Int.mul_ediv_add_emod _ _
    have q3 : 0 ≤ e := by rw [he]; exact Int.ediv_nonneg (by omega) (by omega)
    have q4 : e ≤ -(2 * a + b) := by rw [he]; exact Int.ediv_le_self _ (by omega)
    have v1 : 0 < r → (2 * a + b) / (2 * b) = -e - 1 := fun hp => Int.ediv_eq_iff_of_pos (by omega) |>.mpr ⟨by rw [Int.mul_comm, Int.mul_sub, Int.mul_neg]; omega, by rw [Int.mul_comm (-e - 1), Int.mul_sub, Int.mul_neg]; omega⟩
    have v0 : r = 0 → (2 * a + b) / (2 * b) = -e := fun hp => Int.ediv_eq_iff_of_pos (by omega) |>.mpr ⟨by rw [Int.mul_comm, Int.mul_neg]; omega, by rw [Int.mul_comm (-e), Int.mul_neg]; omega⟩
    clear he hr q2
    by_cases hp : 0 < r
    · have V := Lib.hid (v1 hp)
      clear v1 v0
      go_enter Try.func11, Try.ntmps11
      go_wp2
      go_ret
      exact ⟨by rw [V.out]; rfl, rfl⟩
    · have V := Lib.hid (v0 (by omega))
      clear v1 v0
      go_enter Try.func11, Try.ntmps11
      go_wp2
      go_ret
      exact ⟨by rw [V.out]; rfl, rfl⟩

/-- A band's noise. -/
def bandl (s step : Int) (m : Nat) : List Int :=
  (draws m s).map (nl (ln 1 (mn step 255)) (isq (ssq (draws m s) * 65536)))

theorem seed_box (w : World) (s : Int) : (w.alloc (.cells #[.int .u32 s] 32)).cell? ⟨w.heap.size, 0, none⟩ = some (.int .u32 s) := by
  go_simp
theorem seed_free (w : World) (s : Int) : (w.alloc (.cells #[.int .u32 s] 32)).frozen? ⟨w.heap.size, 0, none⟩ = false := by
  go_simp

set_option maxRecDepth 100000 in
set_option maxHeartbeats 2000000 in
theorem band_some (s step : Int) (m : Nat) (hs0 : 0 ≤ s) (hs1 : s < 4294967296) (h0 : 0 ≤ step) (h1 : step ≤ 511) (hm0 : 0 < m) (hm : m ≤ 256) (w : World) :
    Calls Try.prog 5 #[.int .u32 s, .int .i64 step, .int .i64 m] w fun e w' => ∃ v, e = .returned (.tuple #[v, .int .i64 0]) ∧ Kd.R (Kd.int .i64) 3 w' w.heap.size (fun _ => True) v (bandl s step m) ∧ Below w.heap.size w w' := by
  have hm1 : (0 : Int) ≤ (m : Int) := by omega
  have hm2 : (m : Int) ≤ 256 := by omega
  obtain ⟨st, hst, st0, st1, st2⟩ : ∃ st : Int, (if 255 < step then 255 else step) = st ∧ 0 ≤ st ∧ st ≤ 255 ∧ mn step 255 = st := ⟨_, rfl, by split <;> omega, by split <;> omega, rfl⟩
  obtain ⟨l, hl⟩ : ∃ l, l = draws m s := ⟨_, rfl⟩
  have hlen : l.length = m := by rw [hl, draws_length]
  have hmem : ∀ v ∈ l, -32768 ≤ v ∧ v ≤ 32767 := by rw [hl]; exact draws_mem m s
  have hq0 : 0 ≤ ssq l := ssq_nonneg l
  have hq1 : ssq l ≤ 274877906944 := by have := ssq_bd l hmem; rw [hlen] at this; omega
  obtain ⟨d, hd⟩ : ∃ d, d = isq (ssq l * 65536) := ⟨_, rfl⟩
  obtain ⟨d0, d1, _⟩ := isq_spec (ssq l * 65536) (by omega) (by omega)
  rw [← hd] at d0 d1
  have d2 : d ≤ 4294967296 := by
    rcases Int.lt_or_le 4294967296 d with h | h
    · have := sq_le (a := 4294967296) (b := d) (by omega) (by omega); omega
    · exact h
  clear d1
  obtain ⟨a, ha⟩ : ∃ a, a = ln 1 st := ⟨_, rfl⟩
  have a0 : 0 ≤ a ∧ a ≤ 268435455 := by
    have := ln0_bd 1 st (by omega) (by omega)
    rw [ha]; unfold ln; rw [if_neg (by omega)]; exact this
  obtain ⟨a0, a1⟩ := a0
  have HF := Lib.hid (show fix_Sqrt.f (ssq l * 65536) = some (d, 0) by unfold fix_Sqrt.f; rw [if_neg (by omega), if_neg (by omega), hd])
  have HA := Lib.hid (show power_Line.f 1 st = some (a, 0) by unfold power_Line.f; rw [if_pos ⟨by omega, by omega, st0, st1⟩, ha])
  have HBL := Lib.hid (show bandl s step m = l.map (nl a d) by unfold bandl; rw [st2, ← ha, ← hl, ← hd])
  have HLEN := Lib.hid hlen
  have HMEM := Lib.hid hmem
  have HDR := Lib.hid hl
  clear hd ha hl hlen hmem st2
  go_enter Try.func5, Try.ntmps5
  go_wp2_with (go_at_call 7; refine (filled_x w.heap.size w.heap.size m s _ hm0 hm (Nat.le_refl _) (by simp) (seed_box w s) (seed_free w s) hs0 hs1).mono ?_; rintro e w1 ⟨v, rfl, hR, hB⟩; rw [← HDR.out] at hR; obtain ⟨g, c8, rfl, hg1, hg2, _⟩ := Kd.R_form hR (by rw [HLEN.out]; omega); have HR := Aside0.mk (show Kd.R (Kd.int .i64) 3 w1 (w.heap.size + 1) (fun _ => True) (.slice (some ⟨g, 0, none⟩) m c8) l by rw [HLEN.out, World.size_alloc] at hR; exact hR); have HB := Aside0.mk (show Below w.heap.size w w1 from ((Below.refl w.heap.size w).alloc (Nat.le_refl _) _).trans hB); clear hR hB; rw [HLEN.out])
  go_loop [10, 37] (fun v10 v37 => ∃ k : Nat, k ≤ m ∧ v37 = .int .i64 k ∧ v10 = .int .i64 (ssq (l.take k))) (fun _ v37 => m - (intOf v37).toNat)
  case atStart => exact ⟨0, Nat.zero_le _, rfl, rfl⟩
  case round =>
    obtain ⟨k, hk, rfl, rfl⟩ := hrel
    by_cases hlt : k < m
    · have i0 : (0 : Int) ≤ (k : Int) := by omega
      have i1 : (k : Int) < (m : Int) := by omega
      obtain ⟨x, hx⟩ : ∃ x, x = l.getD k 0 := ⟨_, rfl⟩
      have hxm : x ∈ l := by rw [hx, List.getD_eq_getElem?_getD, List.getElem?_eq_getElem (by rw [HLEN.out]; exact hlt)]; exact List.getElem_mem _
      obtain ⟨x0, x1⟩ := HMEM.out x hxm
      obtain ⟨y0, y1⟩ := sq_bd x0 x1
      have hc := (Kd.R_celln 0 HR.out (k : Int) i0 i1).1
      rw [Int.toNat_natCast] at hc
      have hc2 : w1.cell? ⟨g, k, none⟩ = some (.int .i64 x) := by rw [hx]; exact hc
      have z0 := ssq_nonneg (l.take k)
      have z1 : ssq (l.take k) ≤ 274877906944 := by
        have := ssq_bd (l.take k) (fun v hv => HMEM.out v (List.mem_of_mem_take hv))
        have := List.length_take_le k l
        omega
      have HS := Lib.hid (show ssq (l.take (k + 1)) = ssq (l.take k) + x * x by rw [hx]; exact ssq_take l k (by rw [HLEN.out]; exact hlt))
      clear hx hc hxm
      go_wp2
      go_round
      case rel => exact ⟨k + 1, hlt, by go_num, by rw [HS.out]⟩
      case measure => simp [intOf]; omega
    · have hkm : k = m := by omega
      subst hkm
      have et : l.take k = l := by rw [← HLEN.out]; exact List.take_length
      rw [et]
      go_wp2_with (first
        | (go_at_call 9; refine (fix_Sqrt.calls _ _ _ _ HF.out).mono ?_; rintro e w2 ⟨rfl, hb⟩; have n0_ := Aside0.mk (Kd.R_below HR.out hb); have n1_ := Aside0.mk (below_step HB.out hb); clear HR HB hb; have HR := n0_; have HB := n1_; clear n0_ n1_)
        | (go_at_call 10; refine (power_Line.calls _ _ _ _ _ HA.out).mono ?_; rintro e w3 ⟨rfl, hb⟩; have n0_ := Aside0.mk (Kd.R_below HR.out hb); have n1_ := Aside0.mk (below_step HB.out hb); clear HR HB hb; have HR := n0_; have HB := n1_; clear n0_ n1_))
      have HR0 := Aside0.mk (show Kd.R (Kd.int .i64) 3 w3 (w.heap.size + 1) (fun _ => True) (.slice (some ⟨g, 0, none⟩) k c8) (mix (nl a d) l 0) by rw [mix_zero]; exact HR.out)
      clear HR et
      go_loopw [61] (fun v61 wr => ∃ j : Nat, j ≤ k ∧ v61 = .int .i64 j ∧ Aside0 (Kd.R (Kd.int .i64) 3 wr (w.heap.size + 1) (fun _ => True) (.slice (some ⟨g, 0, none⟩) k c8) (mix (nl a d) l j)) ∧ Aside0 (Below w.heap.size w wr)) (fun v61 _ => k - (intOf v61).toNat)
      case atStart => exact ⟨0, Nat.zero_le _, rfl, HR0, HB⟩
      case round =>
        obtain ⟨j, hj, rfl, HR, HB2⟩ := hrel
        clear HR0 HB
        by_cases hjt : j < k
        · have j0 : (0 : Int) ≤ (j : Int) := by omega
          have j1 : (j : Int) < (k : Int) := by omega
          obtain ⟨x, hx⟩ : ∃ x, x = l.getD j 0 := ⟨_, rfl⟩
          have hj2 : j < l.length := by rw [HLEN.out]; exact hjt
          have hxm : x ∈ l := by rw [hx, List.getD_eq_getElem?_getD, List.getElem?_eq_getElem hj2]; exact List.getElem_mem _
          obtain ⟨x0, x1⟩ := HMEM.out x hxm
          obtain ⟨hc, hf⟩ := Kd.R_celln 0 HR.out (j : Int) j0 j1
          rw [Int.toNat_natCast] at hc hf
          have hc2 : wr.cell? ⟨g, j, none⟩ = some (.int .i64 x) := by rw [hx, ← mix_get (nl a d) l j hj2]; exact hc
          have p0 : -8796093022208 ≤ x * a ∧ x * a ≤ 8796093022208 := by
            rcases Int.le_total 0 x with h | h
            · have q0 := Int.mul_nonneg h a0
              have q1 := Int.mul_le_mul (a := x) (b := a) (c := 32768) (d := 268435455) (by omega) a1 a0 (by omega)
              omega
            · have q0 := Int.mul_nonneg (a := -x) (b := a) (by omega) a0
              have q1 := Int.mul_le_mul (a := -x) (b := a) (c := 32768) (d := 268435455) (by omega) a1 a0 (by omega)
              rw [Int.neg_mul] at q0 q1
              omega
          obtain ⟨p0, p1⟩ := p0
          have HX := Lib.hid hx
          have HJ2 := Lib.hid hj2
          clear hx hj2 hxm hc
          by_cases hdp : 0 < d
          · have HN := Lib.hid (show nl a d x = (2 * (x * a * 256) + d) / (2 * d) by unfold nl; rw [if_pos hdp])
            go_wp2_with (go_at_call 11; refine (per_x _ _ (by omega) (by omega) hdp (by omega) _).mono ?_; rintro e w4 ⟨rfl, rfl⟩)
            go_roundw
            case rel =>
              have hp := Kd.R_putn (Kd.R_putn HR.out (j : Int) 0) (j : Int) (nl a d x)
              rw [Int.toNat_natCast, mix_set2 (nl a d) l j HJ2.out _ _ (by rw [HX.out]), HN.out] at hp
              exact ⟨j + 1, hjt, by go_num, ⟨hp⟩, ⟨(HB2.out.setCell (p := ⟨g, j, none⟩) (by simp at hg1; show w.heap.size ≤ g; omega) _).setCell (p := ⟨g, j, none⟩) (by simp at hg1; show w.heap.size ≤ g; omega) _⟩⟩
            case measure => simp [intOf]; omega
          · have HN := Lib.hid (show nl a d x = 0 by unfold nl; rw [if_neg hdp])
            go_wp2
            go_roundw
            case rel =>
              have hp := Kd.R_putn HR.out (j : Int) (nl a d x)
              rw [Int.toNat_natCast, mix_set (nl a d) l j HJ2.out _ (by rw [HX.out]), HN.out] at hp
              exact ⟨j + 1, hjt, by go_num, ⟨hp⟩, ⟨HB2.out.setCell (p := ⟨g, j, none⟩) (by simp at hg1; show w.heap.size ≤ g; omega) _⟩⟩
            case measure => simp [intOf]; omega
        · have hjm : j = k := by omega
          subst hjm
          have HR3 := Aside0.mk (Kd.R_lower HR.out (show w.heap.size ≤ w.heap.size + 1 by omega))
          clear HR
          go_wp2
          go_ret2
          refine ⟨_, rfl, ?_, HB2.out⟩
          have := HR3.out
          rw [HBL.out]
          have e := mix_all (nl a d) l
          rw [HLEN.out] at e
          rwa [e] at this

set_option maxRecDepth 100000 in
set_option maxHeartbeats 2000000 in
theorem band_nil (s step : Int) (h0 : 0 ≤ step) (h1 : step ≤ 511) (w : World) :
    Calls Try.prog 5 #[.int .u32 s, .int .i64 step, .int .i64 0] w fun e w' => ∃ v, e = .returned (.tuple #[v, .int .i64 0]) ∧ Kd.R (Kd.int .i64) 3 w' w.heap.size (fun _ => True) v [] ∧ Below w.heap.size w w' := by
  obtain ⟨st, hst, st0, st1⟩ : ∃ st : Int, (if 255 < step then 255 else step) = st ∧ 0 ≤ st ∧ st ≤ 255 := ⟨_, rfl, by split <;> omega, by split <;> omega⟩
  obtain ⟨a, ha⟩ : ∃ a, a = ln 1 st := ⟨_, rfl⟩
  have HF := Lib.hid (show fix_Sqrt.f 0 = some (isq 0, 0) by unfold fix_Sqrt.f; rw [if_neg (by omega), if_neg (by omega)])
  have HA := Lib.hid (show power_Line.f 1 st = some (a, 0) by unfold power_Line.f; rw [if_pos ⟨by omega, by omega, st0, st1⟩, ha])
  clear ha
  go_enter Try.func5, Try.ntmps5
  go_wp2_with (go_at_call 7; refine (filled_nil w.heap.size w.heap.size _ (by simp)).mono ?_; rintro e w1 ⟨v, rfl, hR, hB⟩; obtain ⟨A8, c8, rfl⟩ := Kd.R_slice hR; have HR := Aside0.mk (show Kd.R (Kd.int .i64) 3 w1 (w.heap.size + 1) (fun _ => True) (.slice A8 0 c8) [] by rw [World.size_alloc] at hR; exact hR); have HB := Aside0.mk (show Below w.heap.size w w1 from ((Below.refl w.heap.size w).alloc (Nat.le_refl _) _).trans hB); clear hR hB; simp only [List.length_nil])
  go_loop [10, 37] (fun v10 v37 => v10 = .int .i64 0 ∧ v37 = .int .i64 0) (fun _ _ => 0)
  case atStart => exact ⟨rfl, rfl⟩
  case round =>
    obtain ⟨rfl, rfl⟩ := hrel
    go_wp2_with (first
      | (go_at_call 9; refine (fix_Sqrt.calls _ _ _ _ HF.out).mono ?_; rintro e w2 ⟨rfl, hb⟩; have n0_ := Aside0.mk (Kd.R_below HR.out hb); have n1_ := Aside0.mk (below_step HB.out hb); clear HR HB hb; have HR := n0_; have HB := n1_; clear n0_ n1_)
      | (go_at_call 10; refine (power_Line.calls _ _ _ _ _ HA.out).mono ?_; rintro e w3 ⟨rfl, hb⟩; have n0_ := Aside0.mk (Kd.R_below HR.out hb); have n1_ := Aside0.mk (below_step HB.out hb); clear HR HB hb; have HR := n0_; have HB := n1_; clear n0_ n1_))
    go_loop [61] (fun v61 => v61 = .int .i64 0) (fun _ => 0)
    case atStart => exact rfl
    case round =>
      obtain rfl := hrel
      go_wp2
      go_ret2
      exact ⟨_, rfl, Kd.R_lower HR.out (by omega), HB.out⟩

def noise_Band.f (a0 a1 a2 : Int) : Option (List Int × Int) :=
  if 0 ≤ a0 ∧ a0 < 4294967296 then (if a1 < 0 ∨ 511 < a1 then some ([], 2) else if a2 < 0 ∨ 256 < a2 then some ([], 4) else some (bandl a0 a1 a2.toNat, 0)) else none

set_option maxRecDepth 100000 in
set_option maxHeartbeats 400000 in
theorem noise_Band.calls (a0 a1 a2 : Int) (r1 : List Int) (r2 : Int) (w : World) (h : noise_Band.f a0 a1 a2 = some (r1, r2)) :
    Calls Try.prog 5 #[.int .u32 a0, .int .i64 a1, .int .i64 a2] w fun e w' => ∃ v0_ : Value, e = .returned (.tuple #[v0_, .int .i64 r2]) ∧ Kd.R (Kd.int .i64) 3 w' w.heap.size (fun _ => True) v0_ r1 ∧ Below w.heap.size w w' := by
  unfold noise_Band.f at h
  by_cases hs : 0 ≤ a0 ∧ a0 < 4294967296
  · rw [if_pos hs] at h
    by_cases h1 : a1 < 0 ∨ 511 < a1
    · rw [if_pos h1] at h
      obtain ⟨rfl, rfl⟩ := Prod.mk.inj (Option.some.inj h)
      clear h hs
      rcases h1 with h1 | h1
      all_goals
        go_enter Try.func5, Try.ntmps5
        go_wp2
        go_ret2
        exact ⟨_, rfl, Kd.R_nil _ _ _ _ _, Below.refl _ _⟩
    · rw [if_neg h1] at h
      have h2 : 0 ≤ a1 := by omega
      have h3 : a1 ≤ 511 := by omega
      clear h1
      by_cases h4 : a2 < 0 ∨ 256 < a2
      · rw [if_pos h4] at h
        obtain ⟨rfl, rfl⟩ := Prod.mk.inj (Option.some.inj h)
        clear h hs
        rcases h4 with h4 | h4
        all_goals
          go_enter Try.func5, Try.ntmps5
          go_wp2
          go_ret2
          exact ⟨_, rfl, Kd.R_nil _ _ _ _ _, Below.refl _ _⟩
      · rw [if_neg h4] at h
        obtain ⟨rfl, rfl⟩ := Prod.mk.inj (Option.some.inj h)
        clear h
        obtain ⟨m, rfl⟩ := Int.eq_ofNat_of_zero_le (show 0 ≤ a2 by omega)
        rw [Int.toNat_natCast]
        by_cases hm : 0 < m
        · exact band_some a0 a1 m hs.1 hs.2 h2 h3 hm (by omega) w
        · obtain rfl : m = 0 := by omega
          exact band_nil a0 a1 h2 h3 w
  · rw [if_neg hs] at h
    cases h
end Go.Proofs.Ytochlpbgllgmdab
