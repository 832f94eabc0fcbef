/-
  The walk of the statement FixRoots: it returns true whatever the numbers.
-/
import Derived.Test.YtochlpbgllgmdaaPrintR3
import Derived.Test.YtochlpbgllgmdaaPrintR2
import Derived.Test.YtochlpbgllgmdaaM1
import Derived.Deep.RegionWith
import Derived.OpenShut
namespace Go.Proofs.Ytochlpbgllgmdaa
open Go.RowKit Go.ChangeShapes Go.WideShapes Go.Proofs.YtochlpbgllgmdaaW.PrintWords Go.Proofs.YtochlpbgllgmdaaW.PrintLast PrintR

theorem alive_true : reedpipelaw03_alive.f 1 = some true := by
  have e1 : fix_Round.f 1 5 1 = some (3, 0) := by decide +kernel
  have e3 : isq 99 = 9 := isq_eq (by decide) (by decide) (by decide) (by decide)
  unfold reedpipelaw03_alive.f fix_Sqrt.f
  rw [e1, e3]
  rfl

theorem sq_in {n : Int} (h0 : 0 ≤ n) (h1 : n ≤ 4611686018427387904) : fix_Sqrt.f n = some (isq n, 0) := by
  unfold fix_Sqrt.f; rw [if_neg (by omega), if_neg (by omega)]
theorem cb_in {n : Int} (h0 : 0 ≤ n) (h1 : n ≤ 4611686018427387904) : fix_Cbrt.f n = some (icb n, 0) := by
  unfold fix_Cbrt.f; rw [if_neg (by omega), if_neg (by omega)]
theorem sq_out {n : Int} (h : n < 0 ∨ 4611686018427387904 < n) : fix_Sqrt.f n = some (0, 2) := by
  unfold fix_Sqrt.f; split
  · rfl
  · rw [if_pos (by omega)]
theorem cb_out {n : Int} (h : n < 0 ∨ 4611686018427387904 < n) : fix_Cbrt.f n = some (0, 2) := by
  unfold fix_Cbrt.f; split
  · rfl
  · rw [if_pos (by omega)]

set_option maxRecDepth 100000 in
set_option maxHeartbeats 400000 in
theorem roots_out (n m r : Int) (w : World) (h : n < 0 ∨ 4611686018427387904 < n) :
    Calls Try.prog 3 #[.int .i64 n, .int .i64 m, .int .u16 r] w fun e w' => e = .returned (.bool true) ∧ Below w.heap.size w w' := by
  have hs := Lib.hid (sq_out h)
  have hc := Lib.hid (cb_out h)
  rcases h with h | h
  all_goals
    go_enter Try.func3, Try.ntmps3
    go_wp2_with (first
      | (go_at_call 4; refine (reedpipelaw03_alive.calls 1 true _ alive_true).mono ?_; rintro e w1 ⟨rfl, hb1⟩)
      | (go_at_call 5; refine (fix_Sqrt.calls n 0 2 _ hs.out).mono ?_; rintro e w2 ⟨rfl, hb2⟩)
      | (go_at_call 6; refine (fix_Cbrt.calls n 0 2 _ hc.out).mono ?_; rintro e w3 ⟨rfl, hb3⟩))
    go_ret
    exact ⟨rfl, below_step (below_step hb1 hb2) hb3⟩

theorem div_ge {n a : Int} (ha : 0 < a) (h : a * a ≤ n) : a ≤ n / a := (Int.le_ediv_iff_mul_le ha).mpr h
theorem div_lt {n a : Int} (ha : 0 < a) (h : n < a * a) : n / a < a := (Int.ediv_lt_iff_lt_mul ha).mpr h
theorem div_ge2 {n a : Int} (ha : 0 < a) (h : a * a * a ≤ n) : a * a ≤ n / a := (Int.le_ediv_iff_mul_le ha).mpr h
theorem div_lt2 {n a : Int} (ha : 0 < a) (h : n < a * a * a) : n / a < a * a := (Int.ediv_lt_iff_lt_mul ha).mpr h

theorem wdiv {n a : Int} (h0 : 0 ≤ n) (h1 : n ≤ 4611686018427387904) (ha : 0 < a) : wrap64 (Int.tdiv n a) = n / a := by
  have q0 : 0 ≤ n / a := Int.ediv_nonneg h0 (by omega)
  have q1 : n / a ≤ n := Int.ediv_le_self a h0
  rw [Int.tdiv_eq_ediv_of_nonneg h0]
  unfold wrap64; omega

set_option maxRecDepth 100000 in
set_option maxHeartbeats 2000000 in
theorem roots_pos2 (n m r a b c d c1 d1 : Int) (w : World) (h0 : 0 ≤ n) (h1 : n ≤ 4611686018427387904) (hr0 : 0 ≤ r) (hr1 : r ≤ 65535)
    (HS : fix_Sqrt.f n = some (a, 0)) (HC : fix_Cbrt.f n = some (b, 0)) (HSM : fix_Sqrt.f m = some (c, c1)) (HCM : fix_Cbrt.f m = some (d, d1))
    (ha0 : 0 ≤ a) (ha1 : a ≤ 2147483648) (hb0 : 0 ≤ b) (hb1 : b ≤ 1664510)
    (da : 0 < a → ¬ n / a < a) (da' : n / (a + 1) < a + 1) (db : 0 < b → ¬ n / b < b * b) (db' : n / (b + 1) < (b + 1) * (b + 1))
    (hc1 : c1 = 2) (hd1 : d1 = 2) (za : 0 < a) (zb : 0 < b) :
    Calls Try.prog 3 #[.int .i64 n, .int .i64 m, .int .u16 r] w fun e w' => e = .returned (.bool true) ∧ Below w.heap.size w w' := by
  have hs := Lib.hid HS
  have hc := Lib.hid HC
  have hsm := Lib.hid HSM
  have hcm := Lib.hid HCM
  have q0 : 0 ≤ r * r := Int.mul_nonneg hr0 hr0
  have q1 : r * r ≤ 65535 * 65535 := Int.mul_le_mul hr1 hr1 hr0 (by omega)
  have q2 : 0 ≤ r * r * r := Int.mul_nonneg q0 hr0
  have q3 : r * r * r ≤ (65535 * 65535) * 65535 := Int.mul_le_mul q1 hr1 hr0 (by omega)
  have hrs := Lib.hid (show fix_Sqrt.f (r * r) = some (r, 0) by
    rw [sq_in q0 (by omega), isq_eq (by omega) hr0 (Int.le_refl _) (sq_lt hr0 (by omega))])
  have hrc := Lib.hid (show fix_Cbrt.f (r * r * r) = some (r, 0) by
    rw [cb_in q2 (by omega), icb_eq (by omega) hr0 (Int.le_refl _) (cb_lt hr0 (by omega))])
  have m2 : wrap64 (r * r) = r * r := by unfold wrap64; omega
  have m3 : wrap64 (r * r * r) = r * r * r := by unfold wrap64; omega
  have b0 : 0 ≤ b * b := Int.mul_nonneg hb0 hb0
  have b1 : b * b ≤ 1664510 * 1664510 := Int.mul_le_mul hb1 hb1 hb0 (by omega)
  have b2 : (b + 1) * (b + 1) ≤ 1664511 * 1664511 := Int.mul_le_mul (by omega) (by omega) (by omega) (by omega)
  have b3 : 0 ≤ (b + 1) * (b + 1) := Int.mul_nonneg (by omega) (by omega)
  have m4 : wrap64 (b * b) = b * b := by unfold wrap64; omega
  have m5 : wrap64 ((b + 1) * (b + 1)) = (b + 1) * (b + 1) := by unfold wrap64; omega
  have e2 : wrap64 (Int.tdiv n (a + 1)) = n / (a + 1) := wdiv h0 h1 (by omega)
  have e4 : wrap64 (Int.tdiv n (b + 1)) = n / (b + 1) := wdiv h0 h1 (by omega)
  have d2 : decide (a + 1 ≤ n / (a + 1)) = false := decide_eq_false (by omega)
  have d4 : decide ((b + 1) * (b + 1) ≤ n / (b + 1)) = false := decide_eq_false (by omega)
  clear HS HC HSM HCM da' db'
  have e1 : wrap64 (Int.tdiv n a) = n / a := wdiv h0 h1 za
  have dd1 : decide (n / a < a) = false := decide_eq_false (da za)
  clear da
  have e3 : wrap64 (Int.tdiv n b) = n / b := wdiv h0 h1 zb
  have dd3 : decide (n / b < b * b) = false := decide_eq_false (db zb)
  clear db
  subst hc1 hd1
  go_enter Try.func3, Try.ntmps3
  go_wp2_with (first
    | (go_at_call 4; refine (reedpipelaw03_alive.calls 1 true _ alive_true).mono ?_; rintro e w1 ⟨rfl, hb1⟩)
    | (go_at_call_of 5 n; refine (fix_Sqrt.calls n a 0 _ hs.out).mono ?_; rintro e w2 ⟨rfl, hb2⟩)
    | (go_at_call_of 6 n; refine (fix_Cbrt.calls n b 0 _ hc.out).mono ?_; rintro e w3 ⟨rfl, hb3⟩)
    | (go_at_call_of 5 m; refine (fix_Sqrt.calls m c _ _ hsm.out).mono ?_; rintro e w4 ⟨rfl, hb4⟩)
    | (go_at_call_of 6 m; refine (fix_Cbrt.calls m d _ _ hcm.out).mono ?_; rintro e w5 ⟨rfl, hb5⟩)
    | (go_at_call_of 5 (r * r); refine (fix_Sqrt.calls (r * r) r 0 _ hrs.out).mono ?_; rintro e w6 ⟨rfl, hb6⟩)
    | (go_at_call_of 6 (r * r * r); refine (fix_Cbrt.calls (r * r * r) r 0 _ hrc.out).mono ?_; rintro e w7 ⟨rfl, hb7⟩))
  go_ret
  exact ⟨rfl, below_step (below_step (below_step (below_step (below_step (below_step hb1 hb2) hb3) hb4) hb5) hb6) hb7⟩

set_option maxRecDepth 100000 in
set_option maxHeartbeats 2000000 in
theorem roots_pos0 (n m r a b c d c1 d1 : Int) (w : World) (h0 : 0 ≤ n) (h1 : n ≤ 4611686018427387904) (hr0 : 0 ≤ r) (hr1 : r ≤ 65535)
    (HS : fix_Sqrt.f n = some (a, 0)) (HC : fix_Cbrt.f n = some (b, 0)) (HSM : fix_Sqrt.f m = some (c, c1)) (HCM : fix_Cbrt.f m = some (d, d1))
    (ha0 : 0 ≤ a) (ha1 : a ≤ 2147483648) (hb0 : 0 ≤ b) (hb1 : b ≤ 1664510)
    (da : 0 < a → ¬ n / a < a) (da' : n / (a + 1) < a + 1) (db : 0 < b → ¬ n / b < b * b) (db' : n / (b + 1) < (b + 1) * (b + 1))
    (hc1 : c1 = 0) (hd1 : d1 = 0) (hm : n ≤ m → a ≤ c ∧ b ≤ d) (za : 0 < a) (zb : 0 < b) :
    Calls Try.prog 3 #[.int .i64 n, .int .i64 m, .int .u16 r] w fun e w' => e = .returned (.bool true) ∧ Below w.heap.size w w' := by
  have hs := Lib.hid HS
  have hc := Lib.hid HC
  have hsm := Lib.hid HSM
  have hcm := Lib.hid HCM
  have q0 : 0 ≤ r * r := Int.mul_nonneg hr0 hr0
  have q1 : r * r ≤ 65535 * 65535 := Int.mul_le_mul hr1 hr1 hr0 (by omega)
  have q2 : 0 ≤ r * r * r := Int.mul_nonneg q0 hr0
  have q3 : r * r * r ≤ (65535 * 65535) * 65535 := Int.mul_le_mul q1 hr1 hr0 (by omega)
  have hrs := Lib.hid (show fix_Sqrt.f (r * r) = some (r, 0) by
    rw [sq_in q0 (by omega), isq_eq (by omega) hr0 (Int.le_refl _) (sq_lt hr0 (by omega))])
  have hrc := Lib.hid (show fix_Cbrt.f (r * r * r) = some (r, 0) by
    rw [cb_in q2 (by omega), icb_eq (by omega) hr0 (Int.le_refl _) (cb_lt hr0 (by omega))])
  have m2 : wrap64 (r * r) = r * r := by unfold wrap64; omega
  have m3 : wrap64 (r * r * r) = r * r * r := by unfold wrap64; omega
  have b0 : 0 ≤ b * b := Int.mul_nonneg hb0 hb0
  have b1 : b * b ≤ 1664510 * 1664510 := Int.mul_le_mul hb1 hb1 hb0 (by omega)
  have b2 : (b + 1) * (b + 1) ≤ 1664511 * 1664511 := Int.mul_le_mul (by omega) (by omega) (by omega) (by omega)
  have b3 : 0 ≤ (b + 1) * (b + 1) := Int.mul_nonneg (by omega) (by omega)
  have m4 : wrap64 (b * b) = b * b := by unfold wrap64; omega
  have m5 : wrap64 ((b + 1) * (b + 1)) = (b + 1) * (b + 1) := by unfold wrap64; omega
  have e2 : wrap64 (Int.tdiv n (a + 1)) = n / (a + 1) := wdiv h0 h1 (by omega)
  have e4 : wrap64 (Int.tdiv n (b + 1)) = n / (b + 1) := wdiv h0 h1 (by omega)
  have d2 : decide (a + 1 ≤ n / (a + 1)) = false := decide_eq_false (by omega)
  have d4 : decide ((b + 1) * (b + 1) ≤ n / (b + 1)) = false := decide_eq_false (by omega)
  clear HS HC HSM HCM da' db'
  have e1 : wrap64 (Int.tdiv n a) = n / a := wdiv h0 h1 za
  have dd1 : decide (n / a < a) = false := decide_eq_false (da za)
  clear da
  have e3 : wrap64 (Int.tdiv n b) = n / b := wdiv h0 h1 zb
  have dd3 : decide (n / b < b * b) = false := decide_eq_false (db zb)
  clear db
  subst hc1 hd1
  by_cases hnm : n ≤ m
  · obtain ⟨hm1, hm2⟩ := hm hnm
    clear hm
    go_enter Try.func3, Try.ntmps3
    go_wp2_with (first
      | (go_at_call 4; refine (reedpipelaw03_alive.calls 1 true _ alive_true).mono ?_; rintro e w1 ⟨rfl, hb1⟩)
      | (go_at_call_of 5 n; refine (fix_Sqrt.calls n a 0 _ hs.out).mono ?_; rintro e w2 ⟨rfl, hb2⟩)
      | (go_at_call_of 6 n; refine (fix_Cbrt.calls n b 0 _ hc.out).mono ?_; rintro e w3 ⟨rfl, hb3⟩)
      | (go_at_call_of 5 m; refine (fix_Sqrt.calls m c _ _ hsm.out).mono ?_; rintro e w4 ⟨rfl, hb4⟩)
      | (go_at_call_of 6 m; refine (fix_Cbrt.calls m d _ _ hcm.out).mono ?_; rintro e w5 ⟨rfl, hb5⟩)
      | (go_at_call_of 5 (r * r); refine (fix_Sqrt.calls (r * r) r 0 _ hrs.out).mono ?_; rintro e w6 ⟨rfl, hb6⟩)
      | (go_at_call_of 6 (r * r * r); refine (fix_Cbrt.calls (r * r * r) r 0 _ hrc.out).mono ?_; rintro e w7 ⟨rfl, hb7⟩))
    go_ret
    exact ⟨rfl, below_step (below_step (below_step (below_step (below_step (below_step hb1 hb2) hb3) hb4) hb5) hb6) hb7⟩
  · clear hm
    go_enter Try.func3, Try.ntmps3
    go_wp2_with (first
      | (go_at_call 4; refine (reedpipelaw03_alive.calls 1 true _ alive_true).mono ?_; rintro e w1 ⟨rfl, hb1⟩)
      | (go_at_call_of 5 n; refine (fix_Sqrt.calls n a 0 _ hs.out).mono ?_; rintro e w2 ⟨rfl, hb2⟩)
      | (go_at_call_of 6 n; refine (fix_Cbrt.calls n b 0 _ hc.out).mono ?_; rintro e w3 ⟨rfl, hb3⟩)
      | (go_at_call_of 5 m; refine (fix_Sqrt.calls m c _ _ hsm.out).mono ?_; rintro e w4 ⟨rfl, hb4⟩)
      | (go_at_call_of 6 m; refine (fix_Cbrt.calls m d _ _ hcm.out).mono ?_; rintro e w5 ⟨rfl, hb5⟩)
      | (go_at_call_of 5 (r * r); refine (fix_Sqrt.calls (r * r) r 0 _ hrs.out).mono ?_; rintro e w6 ⟨rfl, hb6⟩)
      | (go_at_call_of 6 (r * r * r); refine (fix_Cbrt.calls (r * r * r) r 0 _ hrc.out).mono ?_; rintro e w7 ⟨rfl, hb7⟩))
    go_ret
    exact ⟨rfl, below_step (below_step (below_step (below_step (below_step (below_step hb1 hb2) hb3) hb4) hb5) hb6) hb7⟩

set_option maxRecDepth 100000 in
set_option maxHeartbeats 2000000 in
theorem roots_zero (m r c d c1 d1 : Int) (w : World) (hr0 : 0 ≤ r) (hr1 : r ≤ 65535)
    (HSM : fix_Sqrt.f m = some (c, c1)) (HCM : fix_Cbrt.f m = some (d, d1)) (hm : (c1 = 2 ∧ d1 = 2) ∨ (c1 = 0 ∧ d1 = 0 ∧ (0 ≤ m → 0 ≤ c ∧ 0 ≤ d))) :
    Calls Try.prog 3 #[.int .i64 0, .int .i64 m, .int .u16 r] w fun e w' => e = .returned (.bool true) ∧ Below w.heap.size w w' := by
  have hs := Lib.hid (show fix_Sqrt.f 0 = some (0, 0) by rw [sq_in (by omega) (by omega), show isq 0 = 0 from isq_eq (by omega) (by omega) (by decide) (by decide)])
  have hc := Lib.hid (show fix_Cbrt.f 0 = some (0, 0) by rw [cb_in (by omega) (by omega), show icb 0 = 0 from icb_eq (by omega) (by omega) (by decide) (by decide)])
  have hsm := Lib.hid HSM
  have hcm := Lib.hid HCM
  have q0 : 0 ≤ r * r := Int.mul_nonneg hr0 hr0
  have q1 : r * r ≤ 65535 * 65535 := Int.mul_le_mul hr1 hr1 hr0 (by omega)
  have q2 : 0 ≤ r * r * r := Int.mul_nonneg q0 hr0
  have q3 : r * r * r ≤ (65535 * 65535) * 65535 := Int.mul_le_mul q1 hr1 hr0 (by omega)
  have hrs := Lib.hid (show fix_Sqrt.f (r * r) = some (r, 0) by
    rw [sq_in q0 (by omega), isq_eq (by omega) hr0 (Int.le_refl _) (sq_lt hr0 (by omega))])
  have hrc := Lib.hid (show fix_Cbrt.f (r * r * r) = some (r, 0) by
    rw [cb_in q2 (by omega), icb_eq (by omega) hr0 (Int.le_refl _) (cb_lt hr0 (by omega))])
  have m2 : wrap64 (r * r) = r * r := by unfold wrap64; omega
  have m3 : wrap64 (r * r * r) = r * r * r := by unfold wrap64; omega
  clear HSM HCM
  rcases hm with ⟨rfl, rfl⟩ | ⟨rfl, rfl, hm⟩
  · go_enter Try.func3, Try.ntmps3
    go_wp2_with (first
      | (go_at_call 4; refine (reedpipelaw03_alive.calls 1 true _ alive_true).mono ?_; rintro e w1 ⟨rfl, hb1⟩)
      | (go_at_call_of 5 (0 : Int); refine (fix_Sqrt.calls 0 0 0 _ hs.out).mono ?_; rintro e w2 ⟨rfl, hb2⟩)
      | (go_at_call_of 6 (0 : Int); refine (fix_Cbrt.calls 0 0 0 _ hc.out).mono ?_; rintro e w3 ⟨rfl, hb3⟩)
      | (go_at_call_of 5 m; refine (fix_Sqrt.calls m c _ _ hsm.out).mono ?_; rintro e w4 ⟨rfl, hb4⟩)
      | (go_at_call_of 6 m; refine (fix_Cbrt.calls m d _ _ hcm.out).mono ?_; rintro e w5 ⟨rfl, hb5⟩)
      | (go_at_call_of 5 (r * r); refine (fix_Sqrt.calls (r * r) r 0 _ hrs.out).mono ?_; rintro e w6 ⟨rfl, hb6⟩)
      | (go_at_call_of 6 (r * r * r); refine (fix_Cbrt.calls (r * r * r) r 0 _ hrc.out).mono ?_; rintro e w7 ⟨rfl, hb7⟩))
    go_ret
    exact ⟨rfl, below_step (below_step (below_step (below_step (below_step (below_step hb1 hb2) hb3) hb4) hb5) hb6) hb7⟩
  · by_cases hnm : 0 ≤ m
    · obtain ⟨hm1, hm2⟩ := hm hnm
      clear hm
      go_enter Try.func3, Try.ntmps3
      go_wp2_with (first
        | (go_at_call 4; refine (reedpipelaw03_alive.calls 1 true _ alive_true).mono ?_; rintro e w1 ⟨rfl, hb1⟩)
        | (go_at_call_of 5 (0 : Int); refine (fix_Sqrt.calls 0 0 0 _ hs.out).mono ?_; rintro e w2 ⟨rfl, hb2⟩)
        | (go_at_call_of 6 (0 : Int); refine (fix_Cbrt.calls 0 0 0 _ hc.out).mono ?_; rintro e w3 ⟨rfl, hb3⟩)
        | (go_at_call_of 5 m; refine (fix_Sqrt.calls m c _ _ hsm.out).mono ?_; rintro e w4 ⟨rfl, hb4⟩)
        | (go_at_call_of 6 m; refine (fix_Cbrt.calls m d _ _ hcm.out).mono ?_; rintro e w5 ⟨rfl, hb5⟩)
        | (go_at_call_of 5 (r * r); refine (fix_Sqrt.calls (r * r) r 0 _ hrs.out).mono ?_; rintro e w6 ⟨rfl, hb6⟩)
        | (go_at_call_of 6 (r * r * r); refine (fix_Cbrt.calls (r * r * r) r 0 _ hrc.out).mono ?_; rintro e w7 ⟨rfl, hb7⟩))
      go_ret
      exact ⟨rfl, below_step (below_step (below_step (below_step (below_step (below_step hb1 hb2) hb3) hb4) hb5) hb6) hb7⟩
    · clear hm
      go_enter Try.func3, Try.ntmps3
      go_wp2_with (first
        | (go_at_call 4; refine (reedpipelaw03_alive.calls 1 true _ alive_true).mono ?_; rintro e w1 ⟨rfl, hb1⟩)
        | (go_at_call_of 5 (0 : Int); refine (fix_Sqrt.calls 0 0 0 _ hs.out).mono ?_; rintro e w2 ⟨rfl, hb2⟩)
        | (go_at_call_of 6 (0 : Int); refine (fix_Cbrt.calls 0 0 0 _ hc.out).mono ?_; rintro e w3 ⟨rfl, hb3⟩)
        | (go_at_call_of 5 m; refine (fix_Sqrt.calls m c _ _ hsm.out).mono ?_; rintro e w4 ⟨rfl, hb4⟩)
        | (go_at_call_of 6 m; refine (fix_Cbrt.calls m d _ _ hcm.out).mono ?_; rintro e w5 ⟨rfl, hb5⟩)
        | (go_at_call_of 5 (r * r); refine (fix_Sqrt.calls (r * r) r 0 _ hrs.out).mono ?_; rintro e w6 ⟨rfl, hb6⟩)
        | (go_at_call_of 6 (r * r * r); refine (fix_Cbrt.calls (r * r * r) r 0 _ hrc.out).mono ?_; rintro e w7 ⟨rfl, hb7⟩))
      go_ret
      exact ⟨rfl, below_step (below_step (below_step (below_step (below_step (below_step hb1 hb2) hb3) hb4) hb5) hb6) hb7⟩

theorem walk_roots (n m r : Int) (w : World) (w2 : (Lit.int .u16 r).wf = true) :
    Calls Try.prog 3 #[.int .i64 n, .int .i64 m, .int .u16 r] w fun e w' => e = .returned (.bool true) ∧ Below w.heap.size w w' := by
  have hr : 0 ≤ r ∧ r ≤ 65535 := by have := bounds_u16 w2; omega
  by_cases h : n < 0 ∨ 4611686018427387904 < n
  · exact roots_out n m r w h
  · have h0 : 0 ≤ n := by omega
    have h1 : n ≤ 4611686018427387904 := by omega
    obtain ⟨pa0, pa1, pa2⟩ := isq_spec n h0 h1
    obtain ⟨pb0, pb1, pb2⟩ := icb_spec n h0 h1
    have la : isq n ≤ 2147483648 := by
      rcases Int.lt_or_le 2147483648 (isq n) with h | h
      · have := sq_lt (a := 2147483648) (b := isq n) (by omega) h; omega
      · exact h
    have lb : icb n ≤ 1664510 := by
      rcases Int.lt_or_le 1664510 (icb n) with h | h
      · have := cb_le (a := 1664511) (b := icb n) (by omega) (by omega); omega
      · exact h
    by_cases hm : m < 0 ∨ 4611686018427387904 < m
    · by_cases hz : n = 0
      · subst hz
        exact roots_zero m r 0 0 2 2 w hr.1 hr.2 (sq_out hm) (cb_out hm) (.inl ⟨rfl, rfl⟩)
      · have za : 0 < isq n := by
          rcases Int.lt_or_le 0 (isq n) with h | h
          · exact h
          · have e : isq n = 0 := by omega
            rw [e] at pa2; omega
        have zb : 0 < icb n := by
          rcases Int.lt_or_le 0 (icb n) with h | h
          · exact h
          · have e : icb n = 0 := by omega
            rw [e] at pb2; omega
        exact roots_pos2 n m r (isq n) (icb n) 0 0 2 2 w h0 h1 hr.1 hr.2 (sq_in h0 h1) (cb_in h0 h1) (sq_out hm) (cb_out hm) pa0 la pb0 lb
          (fun h k => by have := div_ge h pa1; omega) (div_lt (by omega) pa2) (fun h k => by have := div_ge2 h pb1; omega) (div_lt2 (by omega) pb2) rfl rfl za zb
    · have g0 : 0 ≤ m := by omega
      have g1 : m ≤ 4611686018427387904 := by omega
      by_cases hz : n = 0
      · subst hz
        exact roots_zero m r _ _ 0 0 w hr.1 hr.2 (sq_in g0 g1) (cb_in g0 g1) (.inr ⟨rfl, rfl, fun _ => ⟨(isq_spec m g0 g1).1, (icb_spec m g0 g1).1⟩⟩)
      · have za : 0 < isq n := by
          rcases Int.lt_or_le 0 (isq n) with h | h
          · exact h
          · have e : isq n = 0 := by omega
            rw [e] at pa2; omega
        have zb : 0 < icb n := by
          rcases Int.lt_or_le 0 (icb n) with h | h
          · exact h
          · have e : icb n = 0 := by omega
            rw [e] at pb2; omega
        exact roots_pos0 n m r (isq n) (icb n) (isq m) (icb m) 0 0 w h0 h1 hr.1 hr.2 (sq_in h0 h1) (cb_in h0 h1) (sq_in g0 g1) (cb_in g0 g1) pa0 la pb0 lb
          (fun h k => by have := div_ge h pa1; omega) (div_lt (by omega) pa2) (fun h k => by have := div_ge2 h pb1; omega) (div_lt2 (by omega) pb2) rfl rfl
          (fun h => ⟨isq_mono h0 h g1, icb_mono h0 h g1⟩) za zb
end Go.Proofs.Ytochlpbgllgmdaa
