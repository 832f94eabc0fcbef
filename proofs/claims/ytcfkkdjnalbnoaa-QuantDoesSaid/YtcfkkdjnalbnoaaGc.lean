/-
  The contract of fix.Cbrt.
-/
import Derived.Test.YtcfkkdjnalbnoaaProg
import Derived.WalkKit
import Derived.WalkSpells
import Derived.WalkLawsBesides
import Derived.Deep.Draws
import Derived.Lib.Hide
import Derived.Test.YtcfkkdjnalbnoaaM0
namespace Go.Proofs.Ytcfkkdjnalbnoaa
open Go.RowKit

set_option maxHeartbeats 400000 in
theorem cb1 (r n : Int) (b : Nat) (w : World) (hc : w.cell? ⟨b, 0, none⟩ = some (.int .i64 n)) (hn : n ≤ 4611686018427387904) (h0 : 0 < r) (h1 : r < 2097152) :
    Calls Try.prog 72 #[.int .i64 r, .pointer (some ⟨b, 0, none⟩)] w fun e w' => e = .returned (.bool (g3 n r)) ∧ w = w' := by
  have q0 : 0 < r * r := Int.mul_pos h0 h0
  have q1 : r * r ≤ 2097151 * 2097151 := Int.mul_le_mul (by omega) (by omega) (by omega) (by omega)
  have q2 : 0 < r * r * r := Int.mul_pos q0 h0
  have q3 : r * r * r ≤ (2097151 * 2097151) * 2097151 := Int.mul_le_mul q1 (by omega) (by omega) (by omega)
  have m2 : wrap64 (r * r) = r * r := by unfold wrap64; omega
  have m3 : wrap64 (r * r * r) = r * r * r := by unfold wrap64; omega
  have hq0 : 0 ≤ (4611686018427387904 : Int) / r := Int.ediv_nonneg (by omega) (by omega)
  have hd : wrap64 (Int.tdiv 4611686018427387904 r) = 4611686018427387904 / r := by
    rw [Int.tdiv_eq_ediv_of_nonneg (by omega)]
    have : (4611686018427387904 : Int) / r ≤ 4611686018427387904 := Int.ediv_le_self _ (by omega)
    unfold wrap64; omega
  by_cases hg : n < r * r * r
  · have e : g3 n r = true := by simp [g3, hg]
    rw [e]
    clear e
    go_enter Try.func72, Try.ntmps72
    go_wp2
    all_goals go_ret
    all_goals exact ⟨rfl, rfl⟩
  · have e : g3 n r = false := by simp [g3, hg]
    have hle : decide (4611686018427387904 / r < r * r) = false := by
      have : r * r ≤ 4611686018427387904 / r := (Int.le_ediv_iff_mul_le h0).mpr (by omega)
      simp; omega
    rw [e]
    clear e
    go_enter Try.func72, Try.ntmps72
    go_wp2
    all_goals go_ret
    all_goals exact ⟨rfl, rfl⟩

set_option maxRecDepth 100000 in
set_option maxHeartbeats 400000 in
theorem rootCb (p : Value) (g : Int → Bool) (bits : Nat) (hb : bits ≤ 32) (w : World)
    (hg : ∀ r, 0 < r → r < 2 ^ bits → Calls Try.prog 72 #[.int .i64 r, p] w fun e w' => e = .returned (.bool (g r)) ∧ w = w') :
    Calls Try.prog 71 #[.int .i64 bits, .func (.func 72) #[] #[p]] w fun e w' => e = .returned (.int .i64 (rgo g bits 0)) ∧ w = w' := by
  have HG := Lib.hid hg
  clear hg
  go_enter Try.func71, Try.ntmps71
  go_wp2
  go_loop [4, 5] (fun r i => ∃ (i' x : Int), -1 ≤ i' ∧ i' < bits ∧ 0 ≤ x ∧ x % 2 ^ (i' + 1).toNat = 0 ∧ x + 2 ^ (i' + 1).toNat ≤ 2 ^ bits ∧ i = .int .i64 i' ∧ r = .int .i64 x ∧ rgo g (i' + 1).toNat x = rgo g bits 0)
    (fun _ i => (intOf i + 1).toNat)
  case atStart => exact ⟨(bits : Int) - 1, 0, by omega, by omega, by omega, by simp, by simp, rfl, rfl, by simp⟩
  case round =>
    obtain ⟨i', x, hi0, hi1, hx0, hxm, hxb, rfl, rfl, he⟩ := hrel
    by_cases hlt : 0 ≤ i'
    · obtain ⟨j, rfl⟩ := Int.eq_ofNat_of_zero_le hlt
      obtain ⟨ho, h1, h2, h3, h4, h5, h6⟩ := or_pow x j bits hb hi1 hx0 hxm hxb
      have HE := Lib.hid he
      have H3 := Lib.hid h3
      have H4 := Lib.hid h4
      have H5 := Lib.hid h5
      have H6 := Lib.hid h6
      clear he hxm hxb h3 h4 h5 h6
      have ej : ((j : Int) + 1).toNat = j + 1 := by omega
      have EJ := Lib.hid ej
      clear ej
      by_cases hgr : g (x + 2 ^ j) = true
      · go_wp2_with (go_at_call 72; refine (HG.out _ h1 h2).mono ?_; rintro e w' ⟨rfl, rfl⟩)
        go_round
        case rel => 
          have he := HE.out
          rw [EJ.out] at he
          simp only [rgo, if_pos hgr] at he
          have ej2 : ((j : Int) - 1 + 1).toNat = j := by omega
          exact ⟨(j : Int) - 1, x, by omega, by omega, by omega, by rw [ej2]; exact H4.out, by rw [ej2]; exact H5.out, rfl, rfl, by rw [ej2]; exact he⟩
        case measure => simp [intOf]
      · have hgr := Bool.eq_false_iff.mpr hgr
        go_wp2_with (go_at_call 72; refine (HG.out _ h1 h2).mono ?_; rintro e w' ⟨rfl, rfl⟩)
        go_round
        case rel => 
          have he := HE.out
          rw [EJ.out] at he
          simp only [rgo, hgr] at he
          have ej2 : ((j : Int) - 1 + 1).toNat = j := by omega
          exact ⟨(j : Int) - 1, x + 2 ^ j, by omega, by omega, by omega, by rw [ej2]; exact H3.out, by rw [ej2]; exact H6.out, rfl, rfl, by rw [ej2]; exact he⟩
        case measure => simp [intOf]
    · have HE := Lib.hid he
      clear he hxm hxb
      go_wp2
      go_ret
      refine ⟨?_, rfl⟩
      have he := HE.out
      have : (i' + 1).toNat = 0 := by omega
      rw [this] at he
      rw [← he]
      rfl

theorem bnewC (w : World) (n : Int) : (w.alloc (.cells #[.int .i64 n] 3)).cell? ⟨w.heap.size, 0, none⟩ = some (.int .i64 n) := by
  go_simp

def fix_Cbrt.f (a0 : Int) : Option (Int × Int) := if a0 < 0 then some (0, 2) else if 4611686018427387904 < a0 then some (0, 2) else some (icb a0, 0)

set_option maxHeartbeats 400000 in
theorem fix_Cbrt.exact (a0 : Int) (r1 : Int) (r2 : Int) (w : World) (h : fix_Cbrt.f a0 = some (r1, r2)) :
    Calls Try.prog 62 #[.int .i64 a0] w fun e w' => e = .returned (.tuple #[.int .i64 r1, .int .i64 r2]) ∧ w' = w.alloc (.cells #[.int .i64 a0] 3) := by
  unfold fix_Cbrt.f at h
  by_cases h1 : a0 < 0
  · rw [if_pos h1] at h
    obtain ⟨rfl, rfl⟩ := Prod.mk.inj (Option.some.inj h)
    clear h
    go_enter Try.func62, Try.ntmps62
    go_wp2
    go_ret2
    exact ⟨rfl, rfl⟩
  · rw [if_neg h1] at h
    by_cases h2 : 4611686018427387904 < a0
    · rw [if_pos h2] at h
      obtain ⟨rfl, rfl⟩ := Prod.mk.inj (Option.some.inj h)
      clear h
      go_enter Try.func62, Try.ntmps62
      go_wp2
      go_ret2
      exact ⟨rfl, rfl⟩
    · rw [if_neg h2] at h
      obtain ⟨rfl, rfl⟩ := Prod.mk.inj (Option.some.inj h)
      clear h
      go_enter Try.func62, Try.ntmps62
      go_wp2_with (go_at_call 71; refine (rootCb (.pointer (some ⟨w.heap.size, 0, none⟩)) (g3 a0) 21 (by omega) _ (fun r hr0 hr1 => cb1 r a0 _ _ (bnewC w a0) (by omega) hr0 hr1)).mono ?_; rintro e w' ⟨rfl, rfl⟩)
      go_ret2
      exact ⟨rfl, rfl⟩

theorem fix_Cbrt.calls (a0 : Int) (r1 : Int) (r2 : Int) (w : World) (h : fix_Cbrt.f a0 = some (r1, r2)) :
    Calls Try.prog 62 #[.int .i64 a0] w fun e w' => e = .returned (.tuple #[.int .i64 r1, .int .i64 r2]) ∧ Below w.heap.size w w' :=
  (fix_Cbrt.exact a0 r1 r2 w h).mono fun _ _ ⟨he, hw⟩ => ⟨he, by rw [hw]; exact (Below.refl _ _).alloc (Nat.le_refl _) _⟩

end Go.Proofs.Ytcfkkdjnalbnoaa
