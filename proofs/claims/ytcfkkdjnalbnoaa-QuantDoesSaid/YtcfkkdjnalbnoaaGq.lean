/-
  The contract of power.Quant, of arguments that may be.
-/
import Derived.Test.YtcfkkdjnalbnoaaGl
import Derived.Deep.RegionHeld3
import Derived.WalkSpells
namespace Go.Proofs.Ytcfkkdjnalbnoaa
open Go.RowKit Go.Proofs.YtcfkkdjnalbnoaaW.PrintWords Go.Proofs.YtcfkkdjnalbnoaaW.PrintMore

set_option maxRecDepth 100000 in
set_option maxHeartbeats 1000000 in
theorem quant1 (q x step : Int) (bx bs : Nat) (w : World) (hx : w.cell? ⟨bx, 0, none⟩ = some (.int .i64 x)) (hs : w.cell? ⟨bs, 0, none⟩ = some (.int .i64 step))
    (h0 : 0 ≤ q) (h1 : q < 8191) (h2 : 0 ≤ step) (h3 : step ≤ 255) (h4 : 0 ≤ x) (h5 : x ≤ 268435455) :
    Calls Try.prog 32 #[.int .i64 q, .pointer (some ⟨bx, 0, none⟩), .pointer (some ⟨bs, 0, none⟩)] w fun e w' => e = .returned (.bool (qtest x step q)) ∧ Below w.heap.size w w' := by
  have a0 := ln0_bd q step h0 (by omega)
  have a1 := ln0_bd (q + 1) step (by omega) (by omega)
  have w1 : IntKind.i64.wrap (2 * x) = 2 * x := IntWalk.i64_in _ (by omega)
  obtain ⟨q1, hq1⟩ : ∃ q1, q1 = q + 1 := ⟨_, rfl⟩
  rw [← hq1] at a1
  have HT : Hid (∀ b : Bool, b = decide (2 * x ≤ ln0 q step + ln0 q1 step) → b = qtest x step q) := Lib.hid (fun b hb => by rw [hb, hq1]; rfl)
  have w2 : IntKind.i64.wrap (q + 1) = q1 := by rw [hq1]; exact IntWalk.i64_in _ (by omega)
  have w3 : IntKind.i64.wrap (ln0 q step + ln0 q1 step) = ln0 q step + ln0 q1 step := IntWalk.i64_in _ (by omega)
  have b0 : 0 ≤ q1 := by omega
  have b1 : q1 ≤ 8191 := by omega
  clear hq1
  go_enter Try.func32, Try.ntmps32
  go_wp2_with fail
  go_region_held3 (fun w' => w'.cell? ⟨bx, 0, none⟩ = some (.int .i64 x) ∧ w'.cell? ⟨bs, 0, none⟩ = some (.int .i64 step))
    (first
      | go_keep
      | (exact ⟨cell_later hb (by assumption), cell_later hb (by assumption)⟩)
      | (obtain ⟨z1, z2⟩ := ‹World.cell? _ ⟨bx, 0, none⟩ = some (Value.int .i64 x) ∧ World.cell? _ ⟨bs, 0, none⟩ = some (Value.int .i64 step)›; exact ⟨cell_later hb z1, cell_later hb z2⟩))
    (first
      | (go_at_call_of 30 q1; refine (line_pos q1 step b0 b1 h2 h3 _).mono ?_; rintro e w1 ⟨rfl, hb⟩)
      | (go_at_call_of 30 q; refine (line_pos q step h0 (by omega) h2 h3 _).mono ?_; rintro e w1 ⟨rfl, hb⟩))
  have hbA := ‹Below w.drew.heap.size w.drew _›
  go_wp2
  go_ret
  exact ⟨by rw [← HT.out _ rfl]; rfl, below_step (below_step (by apply below_drew1; exact Below.refl _ _) hbA) hb⟩

set_option maxRecDepth 100000 in
set_option maxHeartbeats 1000000 in
theorem search_any (px ps : Value) (g : Int → Bool) (w : World)
    (hg : ∀ q W, 0 ≤ q → q < 8191 → Below w.heap.size w W → Calls Try.prog 32 #[.int .i64 q, px, ps] W fun e w' => e = .returned (.bool (g q)) ∧ Below W.heap.size W w') :
    Calls Try.prog 31 #[.int .i64 8191, .func (.func 32) #[] #[px, ps]] w fun e w' => e = .returned (.int .i64 (srch g 8192 0 8191)) ∧ Below w.heap.size w w' := by
  have HG := Lib.hid hg
  clear hg
  have HB0 := Aside0.mk (Below.refl w.heap.size w)
  go_enter Try.func31, Try.ntmps31
  go_wp2
  go_loopw [5, 6] (fun vi vj wr => ∃ (i j : Int) (n : Nat), vi = .int .i64 i ∧ vj = .int .i64 j ∧ 0 ≤ i ∧ i ≤ j ∧ j ≤ 8191 ∧ Aside0 (j - i < n) ∧ Aside0 (srch g n i j = srch g 8192 0 8191) ∧ Aside0 (Below w.heap.size w wr))
    (fun vi vj _ => (intOf vj - intOf vi).toNat)
  case atStart => exact ⟨0, 8191, 8192, rfl, rfl, by omega, by omega, by omega, ⟨by omega⟩, ⟨rfl⟩, HB0⟩
  case round =>
    obtain ⟨i, j, n, rfl, rfl, hi0, hij, hj, HN, HS, HB⟩ := hrel
    by_cases hlt : i < j
    · obtain ⟨n, rfl⟩ : ∃ m, n = m + 1 := ⟨n - 1, by have := HN.out; omega⟩
      have HT : Hid (srch g n i ((i + j) / 2) = if g ((i + j) / 2) then srch g (n + 1) i j else srch g n i ((i + j) / 2)) := Lib.hid (by
        by_cases hgt : g ((i + j) / 2) = true
        · rw [if_pos hgt]; simp only [srch]; rw [if_pos hlt, if_pos hgt]
        · rw [if_neg hgt])
      have HF : Hid (g ((i + j) / 2) = false → srch g n ((i + j) / 2 + 1) j = srch g (n + 1) i j) := Lib.hid (fun hgt => by
        simp only [srch]; rw [if_pos hlt, hgt]; rfl)
      have m0 : 0 ≤ (i + j) / 2 := by omega
      have m1 : (i + j) / 2 < 8191 := by omega
      have m2 : i ≤ (i + j) / 2 := by omega
      have m3 : (i + j) / 2 < j := by omega
      have HG2 := Lib.hid (HG.out ((i + j) / 2) wr m0 m1 HB.out)
      by_cases hgt : g ((i + j) / 2) = true
      · have HT2 := Lib.hid (show srch g n i ((i + j) / 2) = srch g 8192 0 8191 by rw [HT.out, if_pos hgt]; exact HS.out)
        clear HT HF HS HG
        go_wp2_with (go_at_call 32; refine HG2.out.mono ?_; rintro e w' ⟨rfl, hb⟩)
        go_roundw
        case rel => exact ⟨i, (i + j) / 2, n, rfl, rfl, hi0, m2, by omega, ⟨by have := HN.out; omega⟩, ⟨HT2.out⟩, ⟨below_step HB.out hb⟩⟩
        case measure => simp [intOf]; omega
      · have hgt := Bool.eq_false_iff.mpr hgt
        have HT2 := Lib.hid (show srch g n ((i + j) / 2 + 1) j = srch g 8192 0 8191 by rw [HF.out hgt]; exact HS.out)
        clear HT HF HS HG
        go_wp2_with (go_at_call 32; refine HG2.out.mono ?_; rintro e w' ⟨rfl, hb⟩)
        go_roundw
        case rel => exact ⟨(i + j) / 2 + 1, j, n, rfl, rfl, by omega, by omega, hj, ⟨by have := HN.out; omega⟩, ⟨HT2.out⟩, ⟨below_step HB.out hb⟩⟩
        case measure => simp [intOf]; omega
    · clear HG
      go_wp2
      go_ret
      refine ⟨?_, HB.out⟩
      have e : srch g n i j = i := by
        cases n with
        | zero => rfl
        | succ n => simp only [srch]; rw [if_neg (by omega)]
      rw [← HS.out, e]
      rfl

theorem b2x (w : World) (x s : Int) : ((w.alloc (.cells #[.int .i64 x] 3)).alloc (.cells #[.int .i64 s] 3)).cell? ⟨w.heap.size, 0, none⟩ = some (.int .i64 x) := by
  go_simp
theorem b2s (w : World) (x s : Int) : ((w.alloc (.cells #[.int .i64 x] 3)).alloc (.cells #[.int .i64 s] 3)).cell? ⟨w.heap.size + 1, 0, none⟩ = some (.int .i64 s) := by
  go_simp

set_option maxRecDepth 100000 in
set_option maxHeartbeats 1000000 in
theorem quant_pos (x step : Int) (h0 : 0 ≤ x) (h1 : x ≤ 268435455) (h2 : 0 ≤ step) (h3 : step ≤ 255) (w : World) :
    Calls Try.prog 17 #[.int .i64 x, .int .i64 step] w fun e w' => e = .returned (.tuple #[.int .i64 (qn0 x step), .int .i64 0]) ∧ Below w.heap.size w w' := by
  go_enter Try.func17, Try.ntmps17
  go_wp2_with (first
    | (go_at_call 29; refine (odd_no x _ (by omega) (by omega) (by omega) _).mono ?_; rintro e w' ⟨rfl, rfl⟩)
    | (go_at_call 31; refine (search_any (.pointer (some ⟨w.heap.size, 0, none⟩)) (.pointer (some ⟨w.heap.size + 1, 0, none⟩)) (qtest x step) _ (fun q W hq0 hq1 hb => quant1 q x step _ _ W ((hb.cell (p := ⟨w.heap.size, 0, none⟩) (by simp <;> omega)).trans (b2x w x step)) ((hb.cell (p := ⟨w.heap.size + 1, 0, none⟩) (by simp <;> omega)).trans (b2s w x step)) hq0 hq1 h2 h3 h0 h1)).mono ?_; rintro e w' ⟨rfl, hb⟩))
  go_ret2
  exact ⟨rfl, below_step (below_alloc (below_alloc (Below.refl _ _) _) _) hb⟩

set_option maxRecDepth 100000 in
set_option maxHeartbeats 1000000 in
theorem quant_any (x step : Int) (h0 : -268435455 ≤ x) (h1 : x ≤ 268435455) (h2 : 0 ≤ step) (h3 : step ≤ 255) (w : World) :
    Calls Try.prog 17 #[.int .i64 x, .int .i64 step] w fun e w' => e = .returned (.tuple #[.int .i64 (qn x step), .int .i64 0]) ∧ Below w.heap.size w w' := by
  by_cases h : x < 0
  · have hl := qn0_bd (-x) step
    have e : qn x step = -qn0 (-x) step := by unfold qn; rw [if_pos h]
    rw [e]
    clear e
    go_enter Try.func17, Try.ntmps17
    go_wp2_with (first
      | (go_at_call 29; refine (odd_no x _ (by omega) (by omega) (by omega) _).mono ?_; rintro e w' ⟨rfl, rfl⟩)
      | (go_at_call 17; refine (quant_pos (-x) step (by omega) (by omega) h2 h3 _).mono ?_; rintro e w1 ⟨rfl, hb⟩))
    go_ret2
    exact ⟨rfl, below_step (below_alloc (below_alloc (Below.refl _ _) _) _) hb⟩
  · have e : qn x step = qn0 x step := by unfold qn; rw [if_neg h]
    rw [e]
    exact quant_pos x step (by omega) h1 h2 h3 w
end Go.Proofs.Ytcfkkdjnalbnoaa
