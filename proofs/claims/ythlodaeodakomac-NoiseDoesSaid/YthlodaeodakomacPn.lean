/-
  What the printed functions of package noise come to.
-/
import Derived.Test.YthlodaeodakomacPrintN4
import Derived.Test.YthlodaeodakomacM5
import Derived.OpenShut
namespace Go.Proofs.Ythlodaeodakomac
open Go.RowKit Go.Proofs.YthlodaeodakomacW.PrintWords Go.Proofs.YthlodaeodakomacW.PrintLast PrintN

theorem alive16_30 : reedpipelaw16_alive.f 30 = some true := by decide +kernel
theorem alive16 (k : Nat) (h : 30 ≤ k) : reedpipelaw16_alive.f k = some true := at_rounds reedpipelaw16_alive.mono h alive16_30

def inSeed (s : Int) : Prop := 0 ≤ s ∧ s < 4294967296
theorem seed_wf {s : Int} (h : (Lit.int .u32 s).wf = true) : inSeed s := by
  have := bounds_u32 h
  unfold inSeed; omega

theorem band_arg {s step many : Int} (hs : inSeed s) (h : step < 0 ∨ 511 < step) : noise_Band.f s step many = some ([], 2) := by
  exact (if_pos hs).trans (if_pos h)
theorem band_many {s step many : Int} (hs : inSeed s) (h : ¬ (step < 0 ∨ 511 < step)) (hm : many < 0 ∨ 256 < many) : noise_Band.f s step many = some ([], 4) := by
  exact (if_pos hs).trans ((if_neg h).trans (if_pos hm))
theorem band_ok {s step many : Int} (hs : inSeed s) (h : ¬ (step < 0 ∨ 511 < step)) (hm : ¬ (many < 0 ∨ 256 < many)) : noise_Band.f s step many = some (bandl s step many.toNat, 0) := by
  exact (if_pos hs).trans ((if_neg h).trans (if_neg hm))

theorem bandl_length (s step : Int) (m : Nat) : (bandl s step m).length = m := by unfold bandl; rw [List.length_map, draws_length]

/-- The root of a band's draws. -/
def rootOf (s : Int) (m : Nat) : Int := isq (ssq (draws m s) * 65536)

theorem rd_map (f : Int → Int) (l : List Int) (i : Nat) (h : i < l.length) : rd (l.map f) i = f (rd l i) := by
  unfold rd
  rw [Int.toNat_natCast, List.getD_eq_getElem?_getD, List.getD_eq_getElem?_getD, List.getElem?_map, List.getElem?_eq_getElem h]
  rfl

theorem rd_mem (l : List Int) (i : Nat) (h : i < l.length) : rd l i ∈ l := by
  unfold rd
  rw [Int.toNat_natCast, List.getD_eq_getElem?_getD, List.getElem?_eq_getElem h]
  exact List.getElem_mem _

theorem draws_q (s : Int) (m : Nat) (hm : m ≤ 256) : ssq (draws m s) ≤ 274877906944 := by
  have := ssq_bd (draws m s) (draws_mem m s)
  rw [draws_length] at this
  omega

theorem band_rd (s step : Int) (m i : Nat) (h : i < m) : rd (bandl s step m) i = nl (ln 1 (mn step 255)) (rootOf s m) (rd (draws m s) i) := by
  unfold bandl rootOf
  rw [rd_map _ _ _ (by rw [draws_length]; exact h)]

theorem draw_rd (s : Int) (m i : Nat) (hm : m ≤ 256) (h : i < m) : 256 * rd (draws m s) i ≤ rootOf s m ∧ -(256 * rd (draws m s) i) ≤ rootOf s m :=
  draw_le_root (draws m s) _ (rd_mem _ _ (by rw [draws_length]; exact h)) (draws_q s m hm)

theorem one_bd (step : Int) : 0 ≤ ln 1 (mn step 255) ∧ ln 1 (mn step 255) ≤ 268435455 := by
  rw [ln_pos (by omega)]
  exact ln0_bd 1 _ (by omega) (by omega)

theorem band_bd (s step : Int) (m i : Nat) (hm : m ≤ 256) (h : i < m) : -268435455 ≤ rd (bandl s step m) i ∧ rd (bandl s step m) i ≤ 268435455 := by
  obtain ⟨a0, a1⟩ := one_bd step
  obtain ⟨d0, d1⟩ := draw_rd s m i hm h
  rw [band_rd s step m i h]
  have := nl_le (ln 1 (mn step 255)) (rootOf s m) (rd (draws m s) i) a0 d0 d1
  omega
end Go.Proofs.Ythlodaeodakomac
