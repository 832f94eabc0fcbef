/-
  The contracts of package power's inner functions: four, of, line.
-/
import Derived.Test.YtcfkkdjnalbnoaaMp
import Derived.Test.YtcfkkdjnalbnoaaGc
import Derived.RegionTactic
import Derived.ChangeAlike
import Derived.Deep.RegionWith
import Derived.Deep.QuietTactic
import Derived.BigQuiet
import Derived.IntWalk
import Derived.Laws.Rows
import Derived.Test.YtcfkkdjnalbnoaaWMore
namespace Go.Proofs.Ytcfkkdjnalbnoaa
open Go.RowKit Go.Proofs.YtcfkkdjnalbnoaaW.PrintWords Go.Proofs.YtcfkkdjnalbnoaaW.PrintMore
attribute [local go_sem] max2_int min2_int max_two min_two

set_option maxHeartbeats 400000 in
theorem four_x (q : Int) (h0 : 0 ≤ q) (h1 : q ≤ 8191) (w : World) :
    Calls Try.prog 48 #[.int .i64 q] w fun e w' => e = .returned (.int .i64 (pw q)) ∧ w' = w.alloc (.cells #[.int .i64 (q * 68719476736)] 3) := by
  have hf : fix_Cbrt.f (q * 68719476736) = some (icb (q * 68719476736), 0) := by
    unfold fix_Cbrt.f
    rw [if_neg (by omega), if_neg (by omega)]
  obtain ⟨i0, i1⟩ := icb_lt (q * 68719476736)
  have hp : wrap64 (q * icb (q * 68719476736)) = pw q := by
    have a : 0 ≤ q * icb (q * 68719476736) := Int.mul_nonneg h0 i0
    have b : q * icb (q * 68719476736) ≤ 8191 * 2097152 := Int.mul_le_mul h1 (by omega) i0 (by omega)
    unfold pw wrap64; omega
  have HF := Lib.hid hf
  clear hf
  go_enter Try.func48, Try.ntmps48
  go_wp2_with (go_at_call 62; refine (fix_Cbrt.exact _ _ _ _ HF.out).mono ?_; rintro e w' ⟨rfl, rfl⟩)
  go_ret
  exact ⟨by rw [← hp]; rfl, rfl⟩

set_option maxHeartbeats 400000 in
theorem of_x (step : Int) (h0 : 0 ≤ step) (h1 : step ≤ 255) (w : World) :
    Calls Try.prog 49 #[.agg #[.int .i64 1073741824, .int .i64 1276901417, .int .i64 1518500250, .int .i64 1805811301], .int .i64 step] w fun e w' => e = .returned (.int .i64 (gq (step % 4))) ∧ w' = w.alloc (.cells #[.int .i64 1073741824, .int .i64 1276901417, .int .i64 1518500250, .int .i64 1805811301] 72) := by
  have hc : step % 4 = 0 ∨ step % 4 = 1 ∨ step % 4 = 2 ∨ step % 4 = 3 := by omega
  rcases hc with h | h | h | h
  all_goals
    rw [h]
    go_enter Try.func49, Try.ntmps49
    go_wp2
    go_ret
    exact ⟨rfl, rfl⟩

set_option maxHeartbeats 400000 in
theorem round_x (n : Int) (b : Nat) (hb : b ≤ 62) (h0 : 0 ≤ n) (h1 : n ≤ 4611686018427387904) (w : World) :
    Calls Try.prog 47 #[.int .i64 n, .int .i64 b] w fun e w' => e = .returned (.tuple #[.int .i64 (rnd n b), .int .i64 0]) ∧ ∃ d, w' = w.drewN d := by
  cases b with
  | zero =>
    rw [show ((0 : Nat) : Int) = 0 from rfl, rnd_zero]
    go_enter Try.func47, Try.ntmps47
    go_wp2
    go_ret2
    exact ⟨rfl, 0, rfl⟩
  | succ b =>
    have e1 : ((b + 1 : Nat) : Int) = (b : Int) + 1 := by omega
    rw [e1]
    clear e1
    have hr := round_code n b (by omega)
    have he := rnd_le n (b + 1) (by omega) (by omega)
    unfold shr at hr
    rw [Nat.min_eq_left (by simp [IntKind.bits]; omega), Nat.min_eq_left (by simp [IntKind.bits]; omega), Int.toNat_natCast] at hr
    rw [show ((b : Int) + 1).toNat = b + 1 from by omega] at hr
    have hw : wrap64 (n / 2 ^ (b + 1) + Go.bits .and .i64 (n / 2 ^ b) 1) = rnd n (b + 1) := by rw [hr]; unfold wrap64; omega
    have HR := Lib.hid hw
    clear hr hw he
    go_enter Try.func47, Try.ntmps47
    go_wp2
    repeat (go_quiet (fail); try go_wp2)
    go_ret2
    exact ⟨by rw [← HR.out]; rfl, ⟨_, rfl⟩⟩

theorem round_y (n b : Int) (hb0 : 0 ≤ b) (hb : b ≤ 62) (h0 : 0 ≤ n) (h1 : n ≤ 4611686018427387904) (w : World) :
    Calls Try.prog 47 #[.int .i64 n, .int .i64 b] w fun e w' => e = .returned (.tuple #[.int .i64 (rnd n b.toNat), .int .i64 0]) ∧ ∃ d, w' = w.drewN d := by
  have := round_x n b.toNat (by omega) h0 h1 w
  rwa [Int.toNat_of_nonneg hb0] at this

theorem ret_int {k : IntKind} {a b : Int} (h : a = b) : Ending.returned (.int k a) = .returned (.int k b) := by rw [h]

set_option maxRecDepth 100000 in
set_option maxHeartbeats 1000000 in
theorem line_pos (q step : Int) (h0 : 0 ≤ q) (h1 : q ≤ 8191) (h2 : 0 ≤ step) (h3 : step ≤ 255) (w : World) :
    Calls Try.prog 30 #[.int .i64 q, .int .i64 step] w fun e w' => e = .returned (.int .i64 (ln0 q step)) ∧ Below w.heap.size w w' := by
  obtain ⟨p0, p1⟩ := pw_bd q h0 h1
  obtain ⟨g0, g1⟩ := gq_bd (step % 4)
  have m0 : 0 ≤ pw q * gq (step % 4) := Int.mul_nonneg p0 (by omega)
  have m1 : pw q * gq (step % 4) ≤ (8191 * 82569) * 1805811301 := Int.mul_le_mul p1 g1 (by omega) (by omega)
  have hm2 : pw q * gq (step % 4) ≤ 4611686018427387904 := by omega
  clear p0 p1 g0 g1 m1
  obtain ⟨s, hs, r1, r2, r3⟩ : ∃ s : Int, (if 61 - step / 4 < 0 then 0 else 61 - step / 4) = s ∧ 0 ≤ s ∧ s ≤ 62 ∧ s.toNat = sbits step := by
    refine ⟨_, rfl, ?_, ?_, ?_⟩
    · split <;> omega
    · split <;> omega
    · unfold sbits; split <;> omega
  have hl : ∀ r : Int, r = rnd (pw q * gq (step % 4)) s.toNat → ln0 q step = mn r 268435455 := by
    intro r hr
    rw [hr, r3]
    rfl
  have w1 : IntKind.i64.wrap (pw q * gq (step % 4)) = pw q * gq (step % 4) := IntWalk.i64_in _ (by omega)
  have w2 : step.tdiv 4 = step / 4 := Int.tdiv_eq_ediv_of_nonneg (by omega)
  have w3 : IntKind.i64.wrap (step / 4) = step / 4 := IntWalk.i64_in _ (by omega)
  have w4 : IntKind.i64.wrap (61 - step / 4) = 61 - step / 4 := IntWalk.i64_in _ (by omega)
  have HL := Lib.hid hl
  clear hl r3
  go_enter Try.func30, Try.ntmps30
  go_wp2
  go_region_with (first
    | (go_at_call 48; refine (four_x q h0 h1 _).mono ?_; rintro e w' ⟨rfl, rfl⟩)
    | (go_at_call 49; refine (of_x step (by omega) (by omega) _).mono ?_; rintro e w' ⟨rfl, rfl⟩)
    | (go_at_call 47; refine (round_y _ _ r1 r2 m0 hm2 _).mono ?_; rintro e w' ⟨rfl, ⟨nd, rfl⟩⟩))
  all_goals clear w1 w2 w3 w4 hs
  all_goals go_wp2
  all_goals go_ret
  all_goals refine ⟨?_, by repeat (first | exact Below.refl _ _ | apply below_alloc | apply pw_below_drewN | apply below_drew1)⟩
  all_goals
    rw [HL.out _ rfl]
    refine ret_int ?_
    unfold mn
    first | rw [if_pos (by assumption)] | rw [if_neg (by omega)]

end Go.Proofs.Ytcfkkdjnalbnoaa
