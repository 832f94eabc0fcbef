/-
  The contracts of power.Four, Line, Quant: for all arguments.
-/
import Derived.Test.YthlodaeodakomabGq
namespace Go.Proofs.Ythlodaeodakomab
open Go.RowKit Go.Proofs.YthlodaeodakomabW.PrintWords Go.Proofs.YthlodaeodakomabW.PrintMore

def power_Four.f (a0 : Int) : Option (Int × Int) := if 0 ≤ a0 ∧ a0 ≤ 8191 then some (pw a0, 0) else some (0, 2)
def power_Line.f (a0 a1 : Int) : Option (Int × Int) := if -8191 ≤ a0 ∧ a0 ≤ 8191 ∧ 0 ≤ a1 ∧ a1 ≤ 255 then some (ln a0 a1, 0) else some (0, 2)
def power_Quant.f (a0 a1 : Int) : Option (Int × Int) := if -268435455 ≤ a0 ∧ a0 ≤ 268435455 ∧ 0 ≤ a1 ∧ a1 ≤ 255 then some (qn a0 a1, 0) else some (0, 2)

set_option maxRecDepth 100000 in
set_option maxHeartbeats 400000 in
theorem odd_yes (n m : Int) (h : n < -m ∨ m < n) (hm0 : 0 ≤ m) (hm : m ≤ 268435455) (w : World) :
    Calls Try.prog 16 #[.int .i64 n, .int .i64 m] w fun e w' => e = .returned (.bool true) ∧ w = w' := by
  by_cases h1 : n < -m
  · clear h
    go_enter Try.func16, Try.ntmps16
    go_wp2
    go_ret
    have e : (decide (n < -m) || decide (m < n)) = true := by simp; omega
    exact ⟨by first | rfl | (rw [← e]; rfl), rfl⟩
  · have h2 : m < n := by omega
    clear h
    go_enter Try.func16, Try.ntmps16
    go_wp2
    go_ret
    have e : (decide (n < -m) || decide (m < n)) = true := by simp; omega
    exact ⟨by first | rfl | (rw [← e]; rfl), rfl⟩

set_option maxRecDepth 100000 in
set_option maxHeartbeats 400000 in
theorem power_Four.calls (a0 : Int) (r1 : Int) (r2 : Int) (w : World) (h : power_Four.f a0 = some (r1, r2)) :
    Calls Try.prog 11 #[.int .i64 a0] w fun e w' => e = .returned (.tuple #[.int .i64 r1, .int .i64 r2]) ∧ Below w.heap.size w w' := by
  unfold power_Four.f at h
  by_cases hc : 0 ≤ a0 ∧ a0 ≤ 8191
  · rw [if_pos hc] at h
    obtain ⟨rfl, rfl⟩ := Prod.mk.inj (Option.some.inj h)
    clear h
    obtain ⟨h0, h1⟩ := hc
    go_enter Try.func11, Try.ntmps11
    go_wp2_with (go_at_call 18; refine (four_x a0 h0 h1 _).mono ?_; rintro e w' ⟨rfl, rfl⟩)
    go_ret2
    exact ⟨rfl, below_alloc (Below.refl _ _) _⟩
  · rw [if_neg hc] at h
    obtain ⟨rfl, rfl⟩ := Prod.mk.inj (Option.some.inj h)
    clear h
    by_cases h0 : a0 < 0
    · clear hc
      go_enter Try.func11, Try.ntmps11
      go_wp2
      go_ret2
      exact ⟨rfl, Below.refl _ _⟩
    · have h1 : 8191 < a0 := by omega
      clear hc
      go_enter Try.func11, Try.ntmps11
      go_wp2
      go_ret2
      exact ⟨rfl, Below.refl _ _⟩

set_option maxRecDepth 100000 in
set_option maxHeartbeats 400000 in
theorem power_Line.calls (a0 a1 : Int) (r1 : Int) (r2 : Int) (w : World) (h : power_Line.f a0 a1 = some (r1, r2)) :
    Calls Try.prog 9 #[.int .i64 a0, .int .i64 a1] w fun e w' => e = .returned (.tuple #[.int .i64 r1, .int .i64 r2]) ∧ Below w.heap.size w w' := by
  unfold power_Line.f at h
  by_cases hc : -8191 ≤ a0 ∧ a0 ≤ 8191 ∧ 0 ≤ a1 ∧ a1 ≤ 255
  · rw [if_pos hc] at h
    obtain ⟨rfl, rfl⟩ := Prod.mk.inj (Option.some.inj h)
    clear h
    obtain ⟨h0, h1, h2, h3⟩ := hc
    go_enter Try.func9, Try.ntmps9
    go_wp2_with (first
      | (go_at_call 16; refine (odd_no a0 _ (by omega) (by omega) (by omega) _).mono ?_; rintro e w' ⟨rfl, rfl⟩)
      | (go_at_call 17; refine (line_any a0 a1 h0 h1 h2 h3 _).mono ?_; rintro e w1 ⟨rfl, hb⟩))
    go_ret2
    exact ⟨rfl, hb⟩
  · rw [if_neg hc] at h
    obtain ⟨rfl, rfl⟩ := Prod.mk.inj (Option.some.inj h)
    clear h
    by_cases h0 : a0 < -8191 ∨ 8191 < a0
    · clear hc
      have H0 := Lib.hid h0
      clear h0
      go_enter Try.func9, Try.ntmps9
      go_wp2_with (go_at_call 16; refine (odd_yes a0 _ H0.out (by omega) (by omega) _).mono ?_; rintro e w' ⟨rfl, rfl⟩)
      go_ret2
      exact ⟨rfl, Below.refl _ _⟩
    · have h1 : -8191 ≤ a0 := by omega
      have h2 : a0 ≤ 8191 := by omega
      clear h0
      by_cases h3 : a1 < 0
      · clear hc
        go_enter Try.func9, Try.ntmps9
        go_wp2_with (go_at_call 16; refine (odd_no a0 _ (by omega) (by omega) (by omega) _).mono ?_; rintro e w' ⟨rfl, rfl⟩)
        go_ret2
        exact ⟨rfl, Below.refl _ _⟩
      · have h4 : 255 < a1 := by omega
        clear hc
        go_enter Try.func9, Try.ntmps9
        go_wp2_with (go_at_call 16; refine (odd_no a0 _ (by omega) (by omega) (by omega) _).mono ?_; rintro e w' ⟨rfl, rfl⟩)
        go_ret2
        exact ⟨rfl, Below.refl _ _⟩

set_option maxRecDepth 100000 in
set_option maxHeartbeats 400000 in
theorem power_Quant.calls (a0 a1 : Int) (r1 : Int) (r2 : Int) (w : World) (h : power_Quant.f a0 a1 = some (r1, r2)) :
    Calls Try.prog 12 #[.int .i64 a0, .int .i64 a1] w fun e w' => e = .returned (.tuple #[.int .i64 r1, .int .i64 r2]) ∧ Below w.heap.size w w' := by
  unfold power_Quant.f at h
  by_cases hc : -268435455 ≤ a0 ∧ a0 ≤ 268435455 ∧ 0 ≤ a1 ∧ a1 ≤ 255
  · rw [if_pos hc] at h
    obtain ⟨rfl, rfl⟩ := Prod.mk.inj (Option.some.inj h)
    exact quant_any a0 a1 hc.1 hc.2.1 hc.2.2.1 hc.2.2.2 w
  · rw [if_neg hc] at h
    obtain ⟨rfl, rfl⟩ := Prod.mk.inj (Option.some.inj h)
    clear h
    by_cases h0 : a0 < -268435455 ∨ 268435455 < a0
    · clear hc
      have H0 := Lib.hid h0
      clear h0
      go_enter Try.func12, Try.ntmps12
      go_wp2_with (go_at_call 16; refine (odd_yes a0 _ H0.out (by omega) (by omega) _).mono ?_; rintro e w' ⟨rfl, rfl⟩)
      go_ret2
      exact ⟨rfl, below_alloc (below_alloc (Below.refl _ _) _) _⟩
    · have h1 : -268435455 ≤ a0 := by omega
      have h2 : a0 ≤ 268435455 := by omega
      clear h0
      by_cases h3 : a1 < 0
      · clear hc
        go_enter Try.func12, Try.ntmps12
        go_wp2_with (go_at_call 16; refine (odd_no a0 _ (by omega) (by omega) (by omega) _).mono ?_; rintro e w' ⟨rfl, rfl⟩)
        go_ret2
        exact ⟨rfl, below_alloc (below_alloc (Below.refl _ _) _) _⟩
      · have h4 : 255 < a1 := by omega
        clear hc
        go_enter Try.func12, Try.ntmps12
        go_wp2_with (go_at_call 16; refine (odd_no a0 _ (by omega) (by omega) (by omega) _).mono ?_; rintro e w' ⟨rfl, rfl⟩)
        go_ret2
        exact ⟨rfl, below_alloc (below_alloc (Below.refl _ _) _) _⟩
end Go.Proofs.Ythlodaeodakomab
