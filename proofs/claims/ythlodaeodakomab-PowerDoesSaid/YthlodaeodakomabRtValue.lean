/-
  The document's line.
-/
import Derived.Test.YthlodaeodakomabPrintP15
import Derived.Test.YthlodaeodakomabRtThird
import Derived.Test.YthlodaeodakomabRtDown
import Derived.Test.YthlodaeodakomabM3
namespace Go.Proofs.Ythlodaeodakomab
open Go.RowKit Go.Proofs.YthlodaeodakomabW.PrintWords Go.Proofs.YthlodaeodakomabW.PrintLast PrintP

theorem power_ref (k : Nat) (q : Int) (hk : 22 ≤ k) (h0 : 0 ≤ q) (h1 : q ≤ 8191) : reedpiperef07_Power.f k q = some (pw q) := by
  unfold reedpiperef07_Power.f reedpiperef03_Third.f
  have w : wrap64 (q * 68719476736) = q * 68719476736 := by unfold wrap64; omega
  have ht := third_loop (q * 68719476736) (by omega) (by omega) 21 k 0 (by omega) (by omega) (by decide) (by omega)
  rw [w, show (1048576 : Int) = bitv 21 from by decide, ht]
  simp only [Option.bind_some]
  have hp := pw_bd q h0 h1
  have e : wrap64 (q * rgo (g3 (q * 68719476736)) 21 0) = pw q := by
    show wrap64 (pw q) = pw q
    unfold wrap64; omega
  rw [e]

theorem quarter_ref (n : Int) : reedpiperef07_quarter.f n = some (gq n) := by
  unfold reedpiperef07_quarter.f gq
  split
  · rfl
  · split
    · rfl
    · split <;> rfl

theorem value_ref0 (k : Nat) (q s : Int) (hk : 22 ≤ k) (h0 : 0 ≤ q) (h1 : q ≤ 8191) (h2 : 0 ≤ s) (h3 : s ≤ 255) : reedpiperef07_Value.f (k + 1) q s = some (ln0 q s) := by
  simp only [reedpiperef07_Value.f]
  obtain ⟨p0, p1⟩ := pw_bd q h0 h1
  obtain ⟨g0, g1⟩ := gq_bd (s % 4)
  have m0 : 0 ≤ pw q * gq (s % 4) := Int.mul_nonneg p0 (by omega)
  have m1 : pw q * gq (s % 4) ≤ (8191 * 82569) * 1805811301 := Int.mul_le_mul p1 g1 (by omega) (by omega)
  have t1 : Int.tmod s 4 = s % 4 := Int.tmod_eq_emod_of_nonneg h2
  have t2 : Int.tdiv s 4 = s / 4 := Int.tdiv_eq_ediv_of_nonneg h2
  have w1 : wrap64 (s / 4) = s / 4 := by unfold wrap64; omega
  have w2 : wrap64 (61 - s / 4) = 61 - s / 4 := by unfold wrap64; omega
  have w3 : wrap64 (pw q * gq (s % 4)) = pw q * gq (s % 4) := by unfold wrap64; omega
  have e : mx (61 - s / 4) 0 = ((sbits s : Nat) : Int) := by unfold mx sbits; split <;> omega
  rw [if_neg (by omega), power_ref k q hk h0 h1, t1, quarter_ref, t2, w1, w2, e]
  simp only [Option.bind_some]
  rw [w3, down_ref _ (sbits s) (by omega) (by omega) (by unfold sbits; omega)]
  rfl

theorem value_ref (k : Nat) (q s : Int) (hk : 24 ≤ k) (h0 : -8191 ≤ q) (h1 : q ≤ 8191) (h2 : 0 ≤ s) (h3 : s ≤ 255) : reedpiperef07_Value.f k q s = some (ln q s) := by
  obtain ⟨k, rfl⟩ : ∃ m, k = m + 2 := ⟨k - 2, by omega⟩
  unfold ln
  by_cases h : q < 0
  · have hb := ln0_bd (-q) s (by omega) (by omega)
    have w : wrap64 (-q) = -q := by unfold wrap64; omega
    have hv := value_ref0 k (-q) s (by omega) (by omega) (by omega) h2 h3
    rw [if_pos h, show k + 2 = k + 1 + 1 from rfl]
    rw [reedpiperef07_Value.f, if_pos h, w, hv]
    simp only [Option.bind_some]
    rw [show wrap64 (-ln0 (-q) s) = -ln0 (-q) s from by unfold wrap64; omega]
  · rw [if_neg h]
    exact value_ref0 (k + 1) q s (by omega) (by omega) h1 h2 h3

end Go.Proofs.Ythlodaeodakomab
