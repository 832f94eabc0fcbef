/-
  The contract of power.Line: for all arguments.
-/
import Derived.Test.YtcfkkdjnalbnoaaGp
import Derived.WalkSpells
namespace Go.Proofs.Ytcfkkdjnalbnoaa
open Go.RowKit Go.Proofs.YtcfkkdjnalbnoaaW.PrintWords Go.Proofs.YtcfkkdjnalbnoaaW.PrintMore

set_option maxHeartbeats 400000 in
theorem line_any (q step : Int) (h0 : -8191 ≤ q) (h1 : q ≤ 8191) (h2 : 0 ≤ step) (h3 : step ≤ 255) (w : World) :
    Calls Try.prog 30 #[.int .i64 q, .int .i64 step] w fun e w' => e = .returned (.int .i64 (ln q step)) ∧ Below w.heap.size w w' := by
  by_cases h : q < 0
  · have hl := ln0_bd (-q) step (by omega) (by omega)
    have e : ln q step = -ln0 (-q) step := by unfold ln; rw [if_pos h]
    rw [e]
    clear e
    go_enter Try.func30, Try.ntmps30
    go_wp2_with (go_at_call 30; refine (line_pos (-q) step (by omega) (by omega) h2 h3 _).mono ?_; rintro e w1 ⟨rfl, hb⟩)
    go_ret
    exact ⟨rfl, hb⟩
  · have e : ln q step = ln0 q step := by unfold ln; rw [if_neg h]
    rw [e]
    exact line_pos q step (by omega) h1 h2 h3 w

set_option maxRecDepth 100000 in
set_option maxHeartbeats 400000 in
theorem odd_no (n m : Int) (h0 : -m ≤ n) (h1 : n ≤ m) (hm : m ≤ 268435455) (w : World) :
    Calls Try.prog 29 #[.int .i64 n, .int .i64 m] w fun e w' => e = .returned (.bool false) ∧ w = w' := by
  go_enter Try.func29, Try.ntmps29
  go_wp2
  go_ret
  have e : (decide (n < -m) || decide (m < n)) = false := by simp; omega
  exact ⟨by rw [← e]; rfl, rfl⟩

set_option maxRecDepth 100000 in
set_option maxHeartbeats 400000 in
theorem odd_yes (n m : Int) (h : n < -m ∨ m < n) (hm0 : 0 ≤ m) (hm : m ≤ 268435455) (w : World) :
    Calls Try.prog 29 #[.int .i64 n, .int .i64 m] w fun e w' => e = .returned (.bool true) ∧ w = w' := by
  by_cases h1 : n < -m
  · clear h
    go_enter Try.func29, Try.ntmps29
    go_wp2
    go_ret
    have e : (decide (n < -m) || decide (m < n)) = true := by simp; omega
    exact ⟨by first | rfl | (rw [← e]; rfl), rfl⟩
  · have h2 : m < n := by omega
    clear h
    go_enter Try.func29, Try.ntmps29
    go_wp2
    go_ret
    have e : (decide (n < -m) || decide (m < n)) = true := by simp; omega
    exact ⟨by first | rfl | (rw [← e]; rfl), rfl⟩

def power_Line.f (a0 a1 : Int) : Option (Int × Int) := if -8191 ≤ a0 ∧ a0 ≤ 8191 ∧ 0 ≤ a1 ∧ a1 ≤ 255 then some (ln a0 a1, 0) else some (0, 2)

set_option maxRecDepth 100000 in
set_option maxHeartbeats 400000 in
theorem power_Line.calls (a0 a1 : Int) (r1 : Int) (r2 : Int) (w : World) (h : power_Line.f a0 a1 = some (r1, r2)) :
    Calls Try.prog 16 #[.int .i64 a0, .int .i64 a1] w fun e w' => e = .returned (.tuple #[.int .i64 r1, .int .i64 r2]) ∧ Below w.heap.size w w' := by
  unfold power_Line.f at h
  by_cases hc : -8191 ≤ a0 ∧ a0 ≤ 8191 ∧ 0 ≤ a1 ∧ a1 ≤ 255
  · rw [if_pos hc] at h
    obtain ⟨rfl, rfl⟩ := Prod.mk.inj (Option.some.inj h)
    clear h
    obtain ⟨h0, h1, h2, h3⟩ := hc
    go_enter Try.func16, Try.ntmps16
    go_wp2_with (first
      | (go_at_call 29; refine (odd_no a0 _ (by omega) (by omega) (by omega) _).mono ?_; rintro e w' ⟨rfl, rfl⟩)
      | (go_at_call 30; refine (line_any a0 a1 h0 h1 h2 h3 _).mono ?_; rintro e w1 ⟨rfl, hb⟩))
    go_ret2
    exact ⟨rfl, hb⟩
  · rw [if_neg hc] at h
    obtain ⟨rfl, rfl⟩ := Prod.mk.inj (Option.some.inj h)
    clear h
    by_cases h0 : a0 < -8191 ∨ 8191 < a0
    · clear hc
      have H0 := Lib.hid h0
      clear h0
      go_enter Try.func16, Try.ntmps16
      go_wp2_with (go_at_call 29; refine (odd_yes a0 _ H0.out (by omega) (by omega) _).mono ?_; rintro e w' ⟨rfl, rfl⟩)
      go_ret2
      exact ⟨rfl, Below.refl _ _⟩
    · have h1 : -8191 ≤ a0 := by omega
      have h2 : a0 ≤ 8191 := by omega
      clear h0
      by_cases h3 : a1 < 0
      · clear hc
        go_enter Try.func16, Try.ntmps16
        go_wp2_with (go_at_call 29; refine (odd_no a0 _ (by omega) (by omega) (by omega) _).mono ?_; rintro e w' ⟨rfl, rfl⟩)
        go_ret2
        exact ⟨rfl, Below.refl _ _⟩
      · have h4 : 255 < a1 := by omega
        clear hc
        go_enter Try.func16, Try.ntmps16
        go_wp2_with (go_at_call 29; refine (odd_no a0 _ (by omega) (by omega) (by omega) _).mono ?_; rintro e w' ⟨rfl, rfl⟩)
        go_ret2
        exact ⟨rfl, Below.refl _ _⟩

end Go.Proofs.Ytcfkkdjnalbnoaa
