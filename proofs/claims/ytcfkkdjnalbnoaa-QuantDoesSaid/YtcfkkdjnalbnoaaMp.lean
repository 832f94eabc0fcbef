/-
  Powers, lines and quantised lines: plain words.
-/
import Derived.Test.YtcfkkdjnalbnoaaM1
import Derived.Test.YtcfkkdjnalbnoaaWMore
namespace Go.Proofs.Ytcfkkdjnalbnoaa
open Go.Proofs.YtcfkkdjnalbnoaaW.PrintWords Go.Proofs.YtcfkkdjnalbnoaaW.PrintMore

/-- The 4/3rd power of a number that may be. -/
def pw (q : Int) : Int := q * icb (q * 68719476736)

theorem icb_lt (n : Int) : 0 ≤ icb n ∧ icb n < 2097152 := by
  have h := rgo_le (g3 n) 21 0
  unfold icb
  omega

/-- Quarter powers of 2, with 30 bits. -/
def gq (n : Int) : Int := if n = 1 then 1276901417 else if n = 2 then 1518500250 else if n = 3 then 1805811301 else 1073741824

theorem gq_bd (n : Int) : 1073741824 ≤ gq n ∧ gq n ≤ 1805811301 := by
  unfold gq; split
  · omega
  · split
    · omega
    · split <;> omega

theorem pw_bd (q : Int) (h0 : 0 ≤ q) (h1 : q ≤ 8191) : 0 ≤ pw q ∧ pw q ≤ 8191 * 82569 := by
  have hs := icb_spec (q * 68719476736) (by omega) (by omega)
  obtain ⟨a, b, c⟩ := hs
  have hle : icb (q * 68719476736) ≤ 82569 := by
    rcases Int.lt_or_le 82569 (icb (q * 68719476736)) with h | h
    · have := cb_le (a := 82570) (b := icb (q * 68719476736)) (by omega) (by omega); omega
    · exact h
  unfold pw
  exact ⟨Int.mul_nonneg h0 a, Int.mul_le_mul h1 hle a (by omega)⟩

/-- How many bits are rounded off at a step. -/
def sbits (step : Int) : Nat := (61 - step / 4).toNat

/-- The line of a number from 0 on. -/
def ln0 (q step : Int) : Int := mn (rnd (pw q * gq (step % 4)) (sbits step)) 268435455


theorem ln0_bd (q step : Int) (h0 : 0 ≤ q) (h1 : q ≤ 8191) : 0 ≤ ln0 q step ∧ ln0 q step ≤ 268435455 := by
  obtain ⟨p0, p1⟩ := pw_bd q h0 h1
  obtain ⟨g0, g1⟩ := gq_bd (step % 4)
  have m0 : 0 ≤ pw q * gq (step % 4) := Int.mul_nonneg p0 (by omega)
  have hr : 0 ≤ rnd (pw q * gq (step % 4)) (sbits step) := by
    have := rnd_mono (n := 0) (sbits step) m0
    have e : rnd 0 (sbits step) = 0 := by
      have hp : (0 : Int) < 2 ^ sbits step := Int.pow_pos (by omega)
      exact rnd_eq (by omega) (by omega)
    omega
  unfold ln0 mn
  split <;> omega

/-- The line of a quantised number at a step. -/
def ln (q step : Int) : Int := if q < 0 then -ln0 (-q) step else ln0 q step

/-- Is the quantised line at most q? -/
def qtest (x step q : Int) : Bool := decide (2 * x ≤ ln0 q step + ln0 (q + 1) step)

/-- The least number from i on, below j, that passes. -/
def srch (g : Int → Bool) : Nat → Int → Int → Int
  | 0, i, _ => i
  | n + 1, i, j => if i < j then (if g ((i + j) / 2) then srch g n i ((i + j) / 2) else srch g n ((i + j) / 2 + 1) j) else i

/-- The quantised line of a number from 0 on. -/
def qn0 (x step : Int) : Int := srch (qtest x step) 8192 0 8191

theorem srch_bd (g : Int → Bool) : ∀ (n : Nat) (i j : Int), i ≤ j → i ≤ srch g n i j ∧ srch g n i j ≤ j
  | 0, i, j, h => ⟨Int.le_refl _, h⟩
  | n + 1, i, j, h => by
    simp only [srch]
    by_cases hlt : i < j
    · rw [if_pos hlt]
      by_cases hg : g ((i + j) / 2) = true
      · rw [if_pos hg]; have := srch_bd g n i ((i + j) / 2) (by omega); omega
      · rw [if_neg hg]; have := srch_bd g n ((i + j) / 2 + 1) j (by omega); omega
    · rw [if_neg hlt]; omega

theorem qn0_bd (x step : Int) : 0 ≤ qn0 x step ∧ qn0 x step ≤ 8191 := srch_bd _ _ _ _ (by omega)

/-- The quantised line of a number. -/
def qn (x step : Int) : Int := if x < 0 then -qn0 (-x) step else qn0 x step

end Go.Proofs.Ytcfkkdjnalbnoaa
