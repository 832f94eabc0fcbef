-- Written by a program of this session's own (a turned copy of the kit's print); Lean checks it.
import Derived.Test.YtcfkkdjnalbnoaaPrintO0
import Derived.Test.YtcfkkdjnalbnoaaPrintO1
import Derived.Test.YtcfkkdjnalbnoaaPrintO2
import Derived.Test.YtcfkkdjnalbnoaaPrintO3
namespace Go.Proofs.Ytcfkkdjnalbnoaa.PrintO
open Go.RowKit Go.Proofs.Ytcfkkdjnalbnoaa Go.Proofs.Ytcfkkdjnalbnoaa.PrintI Go.Proofs.YtcfkkdjnalbnoaaW.PrintWords Go.Proofs.YtcfkkdjnalbnoaaW.PrintLast Go.Proofs.YtcfkkdjnalbnoaaW.PrintMore
attribute [local go_sem] max2_int min2_int max_two min_two max_three min_three max_four min_four   -- for this text's walks alone
set_option linter.unusedVariables false
set_option linter.unusedSimpArgs false

/-! ### reedpipelaw14_QuantOwn: function 4 -/
mutual
def reedpipelaw14_QuantOwn.j0 : Nat → Int → List (List Int) → List (List Int) → List Int → Int → Int → Bool → Bool → Int → Int → Int → List Int → Option (Bool)
  | 0, _, _, _, _, _, _, _, _, _, _, _, _ => none
  | k + 1, x0, x2, x3, x4, x5, x6, x15, x39, x154000, x154001, x154002, x154003 => if x39 = true then (some x15) else ((quant_Lines.f x0 x154000 x154001 x154002 x154003 x2 x3 x4).bind fun bt156 => ((quant_Quantise.f x0 x154000 x154001 x154002 x154003 x2 x3 x4).bind fun bt160 => ((info_Windows.f k x154000 x154001 x154002 x154003).bind fun bt164 => (if bt164.2 = 0 then (if x5 < 0 then (reedpipelaw14_QuantOwn.j1 k x0 x2 x3 x4 x5 x6 x15 bt156.1 bt156.2 bt160.1 bt160.2 bt164.1 true x154000 x154001 x154002 x154003) else (if x5 ≥ bt164.1 then (reedpipelaw14_QuantOwn.j1 k x0 x2 x3 x4 x5 x6 x15 bt156.1 bt156.2 bt160.1 bt160.2 bt164.1 true x154000 x154001 x154002 x154003) else (if x6 < 0 then (reedpipelaw14_QuantOwn.j1 k x0 x2 x3 x4 x5 x6 x15 bt156.1 bt156.2 bt160.1 bt160.2 bt164.1 true x154000 x154001 x154002 x154003) else (if bt164.1 = 0 then (none) else (if x6 ≥ (wrap64 (Int.tdiv (256 : Int) bt164.1)) then (reedpipelaw14_QuantOwn.j1 k x0 x2 x3 x4 x5 x6 x15 bt156.1 bt156.2 bt160.1 bt160.2 bt164.1 true x154000 x154001 x154002 x154003) else (reedpipelaw14_QuantOwn.j1 k x0 x2 x3 x4 x5 x6 x15 bt156.1 bt156.2 bt160.1 bt160.2 bt164.1 ((x4.length : Int) != 256) x154000 x154001 x154002 x154003)))))) else (reedpipelaw14_QuantOwn.j1 k x0 x2 x3 x4 x5 x6 x15 bt156.1 bt156.2 bt160.1 bt160.2 bt164.1 true x154000 x154001 x154002 x154003)))))
def reedpipelaw14_QuantOwn.j1 : Nat → Int → List (List Int) → List (List Int) → List Int → Int → Int → Bool → List Int → Int → List Int → Int → Int → Bool → Int → Int → Int → List Int → Option (Bool)
  | 0, _, _, _, _, _, _, _, _, _, _, _, _, _, _, _, _, _ => none
  | k + 1, x0, x2, x3, x4, x5, x6, x15, x16, x17, x18, x19, x20, x89, x154000, x154001, x154002, x154003 => if x89 = true then (some x15) else (if x20 = 0 then (none) else ((band_Of.f k x0 (x154000 == 2) x6).bind fun bt166 => ((info_Group.f k x154000 x154001 x154002 x154003 x5).bind fun bt168 => (if x17 = 0 then (reedpipelaw14_QuantOwn.j2 k x2 x3 x4 x15 x16 x17 x18 x19 (wrap64 ((wrap64 (x5 * (wrap64 (Int.tdiv (256 : Int) x20)))) + x6)) bt166.1 bt166.2 bt168.1 bt168.2 false x154000 x154001 x154002 x154003) else (reedpipelaw14_QuantOwn.j2 k x2 x3 x4 x15 x16 x17 x18 x19 (wrap64 ((wrap64 (x5 * (wrap64 (Int.tdiv (256 : Int) x20)))) + x6)) bt166.1 bt166.2 bt168.1 bt168.2 (x19 != 0) x154000 x154001 x154002 x154003)))))
def reedpipelaw14_QuantOwn.j2 : Nat → List (List Int) → List (List Int) → List Int → Bool → List Int → Int → List Int → Int → Int → Int → Int → Int → Int → Bool → Int → Int → Int → List Int → Option (Bool)
  | 0, _, _, _, _, _, _, _, _, _, _, _, _, _, _, _, _, _, _ => none
  | k + 1, x2, x3, x4, x15, x16, x17, x18, x19, x22, x23, x24, x25, x26, x117, x154000, x154001, x154002, x154003 => if x117 = true then (some x15) else (if x24 = 0 then (if x26 = 0 then (reedpipelaw14_QuantOwn.j3 k x2 x3 x4 x15 x16 x17 x18 x19 x22 x23 x24 x25 (decide (x25 ≥ (x2.length : Int))) x154000 x154001 x154002 x154003) else (reedpipelaw14_QuantOwn.j3 k x2 x3 x4 x15 x16 x17 x18 x19 x22 x23 x24 x25 true x154000 x154001 x154002 x154003)) else (reedpipelaw14_QuantOwn.j3 k x2 x3 x4 x15 x16 x17 x18 x19 x22 x23 x24 x25 true x154000 x154001 x154002 x154003))
def reedpipelaw14_QuantOwn.j3 : Nat → List (List Int) → List (List Int) → List Int → Bool → List Int → Int → List Int → Int → Int → Int → Int → Int → Bool → Int → Int → Int → List Int → Option (Bool)
  | 0, _, _, _, _, _, _, _, _, _, _, _, _, _, _, _, _, _ => none
  | k + 1, x2, x3, x4, x15, x16, x17, x18, x19, x22, x23, x24, x25, x130, x154000, x154001, x154002, x154003 => if x130 = true then (some false) else (if x23 < x154002 then (if 0 ≤ x25 then (if x25 < (x2.length : Int) then (if 0 ≤ x23 then (if x23 < ((rd_L1 x2 x25).length : Int) then (if (rd (rd_L1 x2 x25) x23) ≥ 1 then (reedpipelaw14_QuantOwn.j4 k x3 x4 x15 x16 x17 x18 x19 x22 x23 x24 x25 (decide ((rd (rd_L1 x2 x25) x23) ≤ 11))) else (reedpipelaw14_QuantOwn.j4 k x3 x4 x15 x16 x17 x18 x19 x22 x23 x24 x25 false)) else (none)) else (none)) else (none)) else (none)) else (reedpipelaw14_QuantOwn.j4 k x3 x4 x15 x16 x17 x18 x19 x22 x23 x24 x25 false))
def reedpipelaw14_QuantOwn.j4 : Nat → List (List Int) → List Int → Bool → List Int → Int → List Int → Int → Int → Int → Int → Int → Bool → Option (Bool)
  | 0, _, _, _, _, _, _, _, _, _, _, _, _ => none
  | k + 1, x3, x4, x15, x16, x17, x18, x19, x22, x23, x24, x25, x27 => if x17 = 0 then (if x27 = true then (if 0 ≤ x22 then (if x22 < (x4.length : Int) then (if 0 ≤ x25 then (if x25 < (x3.length : Int) then (if 0 ≤ x23 then (if x23 < ((rd_L1 x3 x25).length : Int) then ((power_Line.f (rd x4 x22) (rd (rd_L1 x3 x25) x23)).bind fun bt177 => (if (x16.length : Int) = 256 then (if bt177.2 = 0 then (if x22 < (x16.length : Int) then (if (rd x16 x22) = bt177.1 then (reedpipelaw14_QuantOwn.j5 k x3 x4 x15 x18 x19 x22 x23 bt177.2 x25 x27) else (some false)) else (none)) else (some false)) else (some false))) else (none)) else (none)) else (none)) else (none)) else (none)) else (none)) else (if (x16.length : Int) = 256 then (if x24 = 0 then (if 0 ≤ x22 then (if x22 < (x16.length : Int) then (if (rd x16 x22) = 0 then (reedpipelaw14_QuantOwn.j5 k x3 x4 x15 x18 x19 x22 x23 x24 x25 x27) else (some false)) else (none)) else (none)) else (some false)) else (some false))) else (reedpipelaw14_QuantOwn.j5 k x3 x4 x15 x18 x19 x22 x23 x24 x25 x27)
def reedpipelaw14_QuantOwn.j5 : Nat → List (List Int) → List Int → Bool → List Int → Int → Int → Int → Int → Int → Bool → Option (Bool)
  | 0, _, _, _, _, _, _, _, _, _, _ => none
  | k + 1, x3, x4, x15, x18, x19, x22, x23, x24, x25, x27 => if x19 = 0 then (if x27 = true then (if 0 ≤ x22 then (if x22 < (x4.length : Int) then (if 0 ≤ x25 then (if x25 < (x3.length : Int) then (if 0 ≤ x23 then (if x23 < ((rd_L1 x3 x25).length : Int) then ((power_Quant.f (rd x4 x22) (rd (rd_L1 x3 x25) x23)).bind fun bt184 => (if (x18.length : Int) = 256 then (if bt184.2 = 0 then (if x22 < (x18.length : Int) then (if (rd x18 x22) = bt184.1 then (some x15) else (some false)) else (none)) else (some false)) else (some false))) else (none)) else (none)) else (none)) else (none)) else (none)) else (none)) else (if (x18.length : Int) = 256 then (if x24 = 0 then (if 0 ≤ x22 then (if x22 < (x18.length : Int) then (if (rd x18 x22) = 0 then (some x15) else (some false)) else (none)) else (none)) else (some false)) else (some false))) else (some x15)
end
def reedpipelaw14_QuantOwn.f (k : Nat) (a0 : Int) (a1_0 : Int) (a1_1 : Int) (a1_2 : Int) (l1_3 : List Int) (l2 : List (List Int)) (l3 : List (List Int)) (l4 : List Int) (a5 : Int) (a6 : Int) : Option (Bool) := (reedpipelaw14_alive.f).bind fun t154 => ((reedpiperef14_Great.f k a1_0 a1_1 a1_2 l1_3 l2 l3 l4).bind fun t155 => (if t155 = true then (reedpipelaw14_QuantOwn.j0 k a0 l2 l3 l4 a5 a6 t154 true a1_0 a1_1 a1_2 l1_3) else (reedpipelaw14_QuantOwn.j0 k a0 l2 l3 l4 a5 a6 t154 (!t154) a1_0 a1_1 a1_2 l1_3)))
theorem reedpipelaw14_QuantOwn.mono_l : ∀ k, (∀ y0 y1 y2 y3 y4 y5 y6 y7 y8 y9 y10 y11, LeO (reedpipelaw14_QuantOwn.j0 k y0 y1 y2 y3 y4 y5 y6 y7 y8 y9 y10 y11) (reedpipelaw14_QuantOwn.j0 (k + 1) y0 y1 y2 y3 y4 y5 y6 y7 y8 y9 y10 y11)) ∧ (∀ y0 y1 y2 y3 y4 y5 y6 y7 y8 y9 y10 y11 y12 y13 y14 y15 y16, LeO (reedpipelaw14_QuantOwn.j1 k y0 y1 y2 y3 y4 y5 y6 y7 y8 y9 y10 y11 y12 y13 y14 y15 y16) (reedpipelaw14_QuantOwn.j1 (k + 1) y0 y1 y2 y3 y4 y5 y6 y7 y8 y9 y10 y11 y12 y13 y14 y15 y16)) ∧ (∀ y0 y1 y2 y3 y4 y5 y6 y7 y8 y9 y10 y11 y12 y13 y14 y15 y16 y17, LeO (reedpipelaw14_QuantOwn.j2 k y0 y1 y2 y3 y4 y5 y6 y7 y8 y9 y10 y11 y12 y13 y14 y15 y16 y17) (reedpipelaw14_QuantOwn.j2 (k + 1) y0 y1 y2 y3 y4 y5 y6 y7 y8 y9 y10 y11 y12 y13 y14 y15 y16 y17)) ∧ (∀ y0 y1 y2 y3 y4 y5 y6 y7 y8 y9 y10 y11 y12 y13 y14 y15 y16, LeO (reedpipelaw14_QuantOwn.j3 k y0 y1 y2 y3 y4 y5 y6 y7 y8 y9 y10 y11 y12 y13 y14 y15 y16) (reedpipelaw14_QuantOwn.j3 (k + 1) y0 y1 y2 y3 y4 y5 y6 y7 y8 y9 y10 y11 y12 y13 y14 y15 y16)) ∧ (∀ y0 y1 y2 y3 y4 y5 y6 y7 y8 y9 y10 y11, LeO (reedpipelaw14_QuantOwn.j4 k y0 y1 y2 y3 y4 y5 y6 y7 y8 y9 y10 y11) (reedpipelaw14_QuantOwn.j4 (k + 1) y0 y1 y2 y3 y4 y5 y6 y7 y8 y9 y10 y11)) ∧ (∀ y0 y1 y2 y3 y4 y5 y6 y7 y8 y9, LeO (reedpipelaw14_QuantOwn.j5 k y0 y1 y2 y3 y4 y5 y6 y7 y8 y9) (reedpipelaw14_QuantOwn.j5 (k + 1) y0 y1 y2 y3 y4 y5 y6 y7 y8 y9))
  | 0 => ⟨fun _ _ _ _ _ _ _ _ _ _ _ _ r h => by simp [reedpipelaw14_QuantOwn.j0] at h, fun _ _ _ _ _ _ _ _ _ _ _ _ _ _ _ _ _ r h => by simp [reedpipelaw14_QuantOwn.j1] at h, fun _ _ _ _ _ _ _ _ _ _ _ _ _ _ _ _ _ _ r h => by simp [reedpipelaw14_QuantOwn.j2] at h, fun _ _ _ _ _ _ _ _ _ _ _ _ _ _ _ _ _ r h => by simp [reedpipelaw14_QuantOwn.j3] at h, fun _ _ _ _ _ _ _ _ _ _ _ _ r h => by simp [reedpipelaw14_QuantOwn.j4] at h, fun _ _ _ _ _ _ _ _ _ _ r h => by simp [reedpipelaw14_QuantOwn.j5] at h⟩
  | k + 1 => by
    obtain ⟨ih0, ih1, ih2, ih3, ih4, ih5⟩ := reedpipelaw14_QuantOwn.mono_l k
    refine ⟨?_, ?_, ?_, ?_, ?_, ?_⟩
    · intro y0 y1 y2 y3 y4 y5 y6 y7 y8 y9 y10 y11
      unfold reedpipelaw14_QuantOwn.j0
      repeat' first
      | (with_reducible exact ih0 _ _ _ _ _ _ _ _ _ _ _ _)
      | (with_reducible exact ih1 _ _ _ _ _ _ _ _ _ _ _ _ _ _ _ _ _)
      | (with_reducible exact ih2 _ _ _ _ _ _ _ _ _ _ _ _ _ _ _ _ _ _)
      | (with_reducible exact ih3 _ _ _ _ _ _ _ _ _ _ _ _ _ _ _ _ _)
      | (with_reducible exact ih4 _ _ _ _ _ _ _ _ _ _ _ _)
      | (with_reducible exact ih5 _ _ _ _ _ _ _ _ _ _)
      | (with_reducible exact band_Of.mono _ _ _ _)
      | (with_reducible exact info_Group.mono _ _ _ _ _ _)
      | (with_reducible exact info_Windows.mono _ _ _ _ _)
      | (with_reducible exact reedpiperef14_Great.mono _ _ _ _ _ _ _ _)
      | (with_reducible exact LeO.refl _)
      | (with_reducible exact LeO.none _)
      | (with_reducible refine LeO.ite ?_ ?_)
      | (with_reducible refine LeO.bind ?_ (fun _ => ?_))
      | exact ih0 _ _ _ _ _ _ _ _ _ _ _ _
      | exact ih1 _ _ _ _ _ _ _ _ _ _ _ _ _ _ _ _ _
      | exact ih2 _ _ _ _ _ _ _ _ _ _ _ _ _ _ _ _ _ _
      | exact ih3 _ _ _ _ _ _ _ _ _ _ _ _ _ _ _ _ _
      | exact ih4 _ _ _ _ _ _ _ _ _ _ _ _
      | exact ih5 _ _ _ _ _ _ _ _ _ _
      | exact band_Of.mono _ _ _ _
      | exact info_Group.mono _ _ _ _ _ _
      | exact info_Windows.mono _ _ _ _ _
      | exact reedpiperef14_Great.mono _ _ _ _ _ _ _ _
      | exact LeO.none _
      | refine LeO.ite ?_ ?_
      | refine LeO.bind ?_ (fun _ => ?_)
    · intro y0 y1 y2 y3 y4 y5 y6 y7 y8 y9 y10 y11 y12 y13 y14 y15 y16
      unfold reedpipelaw14_QuantOwn.j1
      repeat' first
      | (with_reducible exact ih0 _ _ _ _ _ _ _ _ _ _ _ _)
      | (with_reducible exact ih1 _ _ _ _ _ _ _ _ _ _ _ _ _ _ _ _ _)
      | (with_reducible exact ih2 _ _ _ _ _ _ _ _ _ _ _ _ _ _ _ _ _ _)
      | (with_reducible exact ih3 _ _ _ _ _ _ _ _ _ _ _ _ _ _ _ _ _)
      | (with_reducible exact ih4 _ _ _ _ _ _ _ _ _ _ _ _)
      | (with_reducible exact ih5 _ _ _ _ _ _ _ _ _ _)
      | (with_reducible exact band_Of.mono _ _ _ _)
      | (with_reducible exact info_Group.mono _ _ _ _ _ _)
      | (with_reducible exact info_Windows.mono _ _ _ _ _)
      | (with_reducible exact reedpiperef14_Great.mono _ _ _ _ _ _ _ _)
      | (with_reducible exact LeO.refl _)
      | (with_reducible exact LeO.none _)
      | (with_reducible refine LeO.ite ?_ ?_)
      | (with_reducible refine LeO.bind ?_ (fun _ => ?_))
      | exact ih0 _ _ _ _ _ _ _ _ _ _ _ _
      | exact ih1 _ _ _ _ _ _ _ _ _ _ _ _ _ _ _ _ _
      | exact ih2 _ _ _ _ _ _ _ _ _ _ _ _ _ _ _ _ _ _
      | exact ih3 _ _ _ _ _ _ _ _ _ _ _ _ _ _ _ _ _
      | exact ih4 _ _ _ _ _ _ _ _ _ _ _ _
      | exact ih5 _ _ _ _ _ _ _ _ _ _
      | exact band_Of.mono _ _ _ _
      | exact info_Group.mono _ _ _ _ _ _
      | exact info_Windows.mono _ _ _ _ _
      | exact reedpiperef14_Great.mono _ _ _ _ _ _ _ _
      | exact LeO.none _
      | refine LeO.ite ?_ ?_
      | refine LeO.bind ?_ (fun _ => ?_)
    · intro y0 y1 y2 y3 y4 y5 y6 y7 y8 y9 y10 y11 y12 y13 y14 y15 y16 y17
      unfold reedpipelaw14_QuantOwn.j2
      repeat' first
      | (with_reducible exact ih0 _ _ _ _ _ _ _ _ _ _ _ _)
      | (with_reducible exact ih1 _ _ _ _ _ _ _ _ _ _ _ _ _ _ _ _ _)
      | (with_reducible exact ih2 _ _ _ _ _ _ _ _ _ _ _ _ _ _ _ _ _ _)
      | (with_reducible exact ih3 _ _ _ _ _ _ _ _ _ _ _ _ _ _ _ _ _)
      | (with_reducible exact ih4 _ _ _ _ _ _ _ _ _ _ _ _)
      | (with_reducible exact ih5 _ _ _ _ _ _ _ _ _ _)
      | (with_reducible exact band_Of.mono _ _ _ _)
      | (with_reducible exact info_Group.mono _ _ _ _ _ _)
      | (with_reducible exact info_Windows.mono _ _ _ _ _)
      | (with_reducible exact reedpiperef14_Great.mono _ _ _ _ _ _ _ _)
      | (with_reducible exact LeO.refl _)
      | (with_reducible exact LeO.none _)
      | (with_reducible refine LeO.ite ?_ ?_)
      | (with_reducible refine LeO.bind ?_ (fun _ => ?_))
      | exact ih0 _ _ _ _ _ _ _ _ _ _ _ _
      | exact ih1 _ _ _ _ _ _ _ _ _ _ _ _ _ _ _ _ _
      | exact ih2 _ _ _ _ _ _ _ _ _ _ _ _ _ _ _ _ _ _
      | exact ih3 _ _ _ _ _ _ _ _ _ _ _ _ _ _ _ _ _
      | exact ih4 _ _ _ _ _ _ _ _ _ _ _ _
      | exact ih5 _ _ _ _ _ _ _ _ _ _
      | exact band_Of.mono _ _ _ _
      | exact info_Group.mono _ _ _ _ _ _
      | exact info_Windows.mono _ _ _ _ _
      | exact reedpiperef14_Great.mono _ _ _ _ _ _ _ _
      | exact LeO.none _
      | refine LeO.ite ?_ ?_
      | refine LeO.bind ?_ (fun _ => ?_)
    · intro y0 y1 y2 y3 y4 y5 y6 y7 y8 y9 y10 y11 y12 y13 y14 y15 y16
      unfold reedpipelaw14_QuantOwn.j3
      repeat' first
      | (with_reducible exact ih0 _ _ _ _ _ _ _ _ _ _ _ _)
      | (with_reducible exact ih1 _ _ _ _ _ _ _ _ _ _ _ _ _ _ _ _ _)
      | (with_reducible exact ih2 _ _ _ _ _ _ _ _ _ _ _ _ _ _ _ _ _ _)
      | (with_reducible exact ih3 _ _ _ _ _ _ _ _ _ _ _ _ _ _ _ _ _)
      | (with_reducible exact ih4 _ _ _ _ _ _ _ _ _ _ _ _)
      | (with_reducible exact ih5 _ _ _ _ _ _ _ _ _ _)
      | (with_reducible exact band_Of.mono _ _ _ _)
      | (with_reducible exact info_Group.mono _ _ _ _ _ _)
      | (with_reducible exact info_Windows.mono _ _ _ _ _)
      | (with_reducible exact reedpiperef14_Great.mono _ _ _ _ _ _ _ _)
      | (with_reducible exact LeO.refl _)
      | (with_reducible exact LeO.none _)
      | (with_reducible refine LeO.ite ?_ ?_)
      | (with_reducible refine LeO.bind ?_ (fun _ => ?_))
      | exact ih0 _ _ _ _ _ _ _ _ _ _ _ _
      | exact ih1 _ _ _ _ _ _ _ _ _ _ _ _ _ _ _ _ _
      | exact ih2 _ _ _ _ _ _ _ _ _ _ _ _ _ _ _ _ _ _
      | exact ih3 _ _ _ _ _ _ _ _ _ _ _ _ _ _ _ _ _
      | exact ih4 _ _ _ _ _ _ _ _ _ _ _ _
      | exact ih5 _ _ _ _ _ _ _ _ _ _
      | exact band_Of.mono _ _ _ _
      | exact info_Group.mono _ _ _ _ _ _
      | exact info_Windows.mono _ _ _ _ _
      | exact reedpiperef14_Great.mono _ _ _ _ _ _ _ _
      | exact LeO.none _
      | refine LeO.ite ?_ ?_
      | refine LeO.bind ?_ (fun _ => ?_)
    · intro y0 y1 y2 y3 y4 y5 y6 y7 y8 y9 y10 y11
      unfold reedpipelaw14_QuantOwn.j4
      repeat' first
      | (with_reducible exact ih0 _ _ _ _ _ _ _ _ _ _ _ _)
      | (with_reducible exact ih1 _ _ _ _ _ _ _ _ _ _ _ _ _ _ _ _ _)
      | (with_reducible exact ih2 _ _ _ _ _ _ _ _ _ _ _ _ _ _ _ _ _ _)
      | (with_reducible exact ih3 _ _ _ _ _ _ _ _ _ _ _ _ _ _ _ _ _)
      | (with_reducible exact ih4 _ _ _ _ _ _ _ _ _ _ _ _)
      | (with_reducible exact ih5 _ _ _ _ _ _ _ _ _ _)
      | (with_reducible exact band_Of.mono _ _ _ _)
      | (with_reducible exact info_Group.mono _ _ _ _ _ _)
      | (with_reducible exact info_Windows.mono _ _ _ _ _)
      | (with_reducible exact reedpiperef14_Great.mono _ _ _ _ _ _ _ _)
      | (with_reducible exact LeO.refl _)
      | (with_reducible exact LeO.none _)
      | (with_reducible refine LeO.ite ?_ ?_)
      | (with_reducible refine LeO.bind ?_ (fun _ => ?_))
      | exact ih0 _ _ _ _ _ _ _ _ _ _ _ _
      | exact ih1 _ _ _ _ _ _ _ _ _ _ _ _ _ _ _ _ _
      | exact ih2 _ _ _ _ _ _ _ _ _ _ _ _ _ _ _ _ _ _
      | exact ih3 _ _ _ _ _ _ _ _ _ _ _ _ _ _ _ _ _
      | exact ih4 _ _ _ _ _ _ _ _ _ _ _ _
      | exact ih5 _ _ _ _ _ _ _ _ _ _
      | exact band_Of.mono _ _ _ _
      | exact info_Group.mono _ _ _ _ _ _
      | exact info_Windows.mono _ _ _ _ _
      | exact reedpiperef14_Great.mono _ _ _ _ _ _ _ _
      | exact LeO.none _
      | refine LeO.ite ?_ ?_
      | refine LeO.bind ?_ (fun _ => ?_)
    · intro y0 y1 y2 y3 y4 y5 y6 y7 y8 y9
      unfold reedpipelaw14_QuantOwn.j5
      repeat' first
      | (with_reducible exact ih0 _ _ _ _ _ _ _ _ _ _ _ _)
      | (with_reducible exact ih1 _ _ _ _ _ _ _ _ _ _ _ _ _ _ _ _ _)
      | (with_reducible exact ih2 _ _ _ _ _ _ _ _ _ _ _ _ _ _ _ _ _ _)
      | (with_reducible exact ih3 _ _ _ _ _ _ _ _ _ _ _ _ _ _ _ _ _)
      | (with_reducible exact ih4 _ _ _ _ _ _ _ _ _ _ _ _)
      | (with_reducible exact ih5 _ _ _ _ _ _ _ _ _ _)
      | (with_reducible exact band_Of.mono _ _ _ _)
      | (with_reducible exact info_Group.mono _ _ _ _ _ _)
      | (with_reducible exact info_Windows.mono _ _ _ _ _)
      | (with_reducible exact reedpiperef14_Great.mono _ _ _ _ _ _ _ _)
      | (with_reducible exact LeO.refl _)
      | (with_reducible exact LeO.none _)
      | (with_reducible refine LeO.ite ?_ ?_)
      | (with_reducible refine LeO.bind ?_ (fun _ => ?_))
      | exact ih0 _ _ _ _ _ _ _ _ _ _ _ _
      | exact ih1 _ _ _ _ _ _ _ _ _ _ _ _ _ _ _ _ _
      | exact ih2 _ _ _ _ _ _ _ _ _ _ _ _ _ _ _ _ _ _
      | exact ih3 _ _ _ _ _ _ _ _ _ _ _ _ _ _ _ _ _
      | exact ih4 _ _ _ _ _ _ _ _ _ _ _ _
      | exact ih5 _ _ _ _ _ _ _ _ _ _
      | exact band_Of.mono _ _ _ _
      | exact info_Group.mono _ _ _ _ _ _
      | exact info_Windows.mono _ _ _ _ _
      | exact reedpiperef14_Great.mono _ _ _ _ _ _ _ _
      | exact LeO.none _
      | refine LeO.ite ?_ ?_
      | refine LeO.bind ?_ (fun _ => ?_)
theorem reedpipelaw14_QuantOwn.mono : ∀ a0 a1 a2 a3 a4 a5 a6 a7 a8 a9 k, LeO (reedpipelaw14_QuantOwn.f k a0 a1 a2 a3 a4 a5 a6 a7 a8 a9) (reedpipelaw14_QuantOwn.f (k + 1) a0 a1 a2 a3 a4 a5 a6 a7 a8 a9) := by
  intro a0 a1 a2 a3 a4 a5 a6 a7 a8 a9 k
  obtain ⟨ih0, ih1, ih2, ih3, ih4, ih5⟩ := reedpipelaw14_QuantOwn.mono_l k
  unfold reedpipelaw14_QuantOwn.f
  repeat' first
      | (with_reducible exact ih0 _ _ _ _ _ _ _ _ _ _ _ _)
      | (with_reducible exact ih1 _ _ _ _ _ _ _ _ _ _ _ _ _ _ _ _ _)
      | (with_reducible exact ih2 _ _ _ _ _ _ _ _ _ _ _ _ _ _ _ _ _ _)
      | (with_reducible exact ih3 _ _ _ _ _ _ _ _ _ _ _ _ _ _ _ _ _)
      | (with_reducible exact ih4 _ _ _ _ _ _ _ _ _ _ _ _)
      | (with_reducible exact ih5 _ _ _ _ _ _ _ _ _ _)
      | (with_reducible exact band_Of.mono _ _ _ _)
      | (with_reducible exact info_Group.mono _ _ _ _ _ _)
      | (with_reducible exact info_Windows.mono _ _ _ _ _)
      | (with_reducible exact reedpiperef14_Great.mono _ _ _ _ _ _ _ _)
      | (with_reducible exact LeO.refl _)
      | (with_reducible exact LeO.none _)
      | (with_reducible refine LeO.ite ?_ ?_)
      | (with_reducible refine LeO.bind ?_ (fun _ => ?_))
      | exact ih0 _ _ _ _ _ _ _ _ _ _ _ _
      | exact ih1 _ _ _ _ _ _ _ _ _ _ _ _ _ _ _ _ _
      | exact ih2 _ _ _ _ _ _ _ _ _ _ _ _ _ _ _ _ _ _
      | exact ih3 _ _ _ _ _ _ _ _ _ _ _ _ _ _ _ _ _
      | exact ih4 _ _ _ _ _ _ _ _ _ _ _ _
      | exact ih5 _ _ _ _ _ _ _ _ _ _
      | exact band_Of.mono _ _ _ _
      | exact info_Group.mono _ _ _ _ _ _
      | exact info_Windows.mono _ _ _ _ _
      | exact reedpiperef14_Great.mono _ _ _ _ _ _ _ _
      | exact LeO.none _
      | refine LeO.ite ?_ ?_
      | refine LeO.bind ?_ (fun _ => ?_)
def reedpipelaw14_QuantOwn.T20 : Bool × List (List Nat × List Nat) := (true, [([], []), ([], []), ([0, 1], [0, 1]), ([2], [2]), ([], []), ([], []), ([4, 5], [4, 5]), ([6], [6]), ([], []), ([7, 8], [7, 8]), ([9], [9]), ([3, 10], [3, 10]), ([11], [11]), ([12], [12]), ([12], [12]), ([13, 11, 0, 1, 2, 3, 4, 5, 6, 7, 8, 9, 10, 11, 12, 13], [13]), ([14, 15, 0, 1, 2, 3, 4, 5, 6, 7, 8, 9, 10, 11, 12, 13, 14, 15], [14])])
def reedpipelaw14_QuantOwn.B20 : List Nat := [0, 0, 3, 7, 0, 0, 48, 112, 0, 496, 1008, 2047, 4095, 8191, 8191, 16383, 65535]
theorem reedpipelaw14_QuantOwn.tab20 : rtab .any (opsOf Try.f4 20) = reedpipelaw14_QuantOwn.T20 := by kernel_rfl
theorem reedpipelaw14_QuantOwn.bits20 : waitsOk reedpipelaw14_QuantOwn.T20.2 reedpipelaw14_QuantOwn.B20 = true := by kernel_rfl
def reedpipelaw14_QuantOwn.T26 : Bool × List (List Nat × List Nat) := (true, [([], []), ([], []), ([0, 1], [0, 1]), ([2], [2]), ([], []), ([], []), ([4, 5], [4, 5]), ([6], [6]), ([], []), ([7, 8], [7, 8]), ([9], [9]), ([3, 10], [3, 10]), ([11], [11]), ([12], [12]), ([12], [12]), ([13, 11, 0, 1, 2, 3, 4, 5, 6, 7, 8, 9, 10, 11, 12, 13], [13]), ([14, 15, 0, 1, 2, 3, 4, 5, 6, 7, 8, 9, 10, 11, 12, 13, 14, 15], [14])])
def reedpipelaw14_QuantOwn.B26 : List Nat := [0, 0, 3, 7, 0, 0, 48, 112, 0, 496, 1008, 2047, 4095, 8191, 8191, 16383, 65535]
theorem reedpipelaw14_QuantOwn.tab26 : rtab .any (opsOf Try.f4 26) = reedpipelaw14_QuantOwn.T26 := by kernel_rfl
theorem reedpipelaw14_QuantOwn.bits26 : waitsOk reedpipelaw14_QuantOwn.T26.2 reedpipelaw14_QuantOwn.B26 = true := by kernel_rfl
set_option maxHeartbeats 8000000 in
set_option maxRecDepth 100000 in
theorem reedpipelaw14_QuantOwn.calls (k : Nat) (a0 : Int) (a1_0 : Int) (a1_1 : Int) (a1_2 : Int) (A1_3 : Option Addr) (c1_3 : Nat) (l1_3 : List Int) (A2 : Option Addr) (c2 : Nat) (l2 : List (List Int)) (A3 : Option Addr) (c3 : Nat) (l3 : List (List Int)) (A4 : Option Addr) (c4 : Nat) (l4 : List Int) (a5 : Int) (a6 : Int) (r : Bool) (w : World) (hr1_3 : Kd.C (Kd.int .i64) w A1_3 l1_3.length l1_3) (hc1_3 : l1_3.length ≤ c1_3) (hr2 : Kd.C (Kd.slice 3 (Kd.int .i64)) w A2 l2.length l2) (hc2 : l2.length ≤ c2) (hr3 : Kd.C (Kd.slice 3 (Kd.int .i64)) w A3 l3.length l3) (hc3 : l3.length ≤ c3) (hr4 : Kd.C (Kd.int .i64) w A4 l4.length l4) (hc4 : l4.length ≤ c4) (HRT : Aside0 (r = true)) (h : reedpipelaw14_QuantOwn.f k a0 a1_0 a1_1 a1_2 l1_3 l2 l3 l4 a5 a6 = some r) :
    Calls Try.prog 4 #[.int .i64 a0, .agg #[.int .u8 a1_0, .int .u8 a1_1, .int .i64 a1_2, .slice A1_3 l1_3.length c1_3], .slice A2 l2.length c2, .slice A3 l3.length c3, .slice A4 l4.length c4, .int .i64 a5, .int .i64 a6] w fun e w' => e = .returned (.bool r) ∧ Below w.heap.size w w' := by
  have hu24 := Try.underlying24
  have HR1_3 := Aside0.mk hr1_3
  have HC1_3 := Aside0.mk hc1_3
  clear hr1_3 hc1_3
  have HR2 := Aside0.mk hr2
  have HC2 := Aside0.mk hc2
  clear hr2 hc2
  have HR3 := Aside0.mk hr3
  have HC3 := Aside0.mk hc3
  clear hr3 hc3
  have HR4 := Aside0.mk hr4
  have HC4 := Aside0.mk hc4
  clear hr4 hc4
  have HB := Aside0.mk (Below.refl w.heap.size w)
  have H : ((reedpipelaw14_alive.f).bind fun t154 => ((reedpiperef14_Great.f k a1_0 a1_1 a1_2 l1_3 l2 l3 l4).bind fun t155 => (if t155 = true then (reedpipelaw14_QuantOwn.j0 k a0 l2 l3 l4 a5 a6 t154 true a1_0 a1_1 a1_2 l1_3) else (reedpipelaw14_QuantOwn.j0 k a0 l2 l3 l4 a5 a6 t154 (!t154) a1_0 a1_1 a1_2 l1_3)))) = some r := h
  clear h
  replace H := Option.bind_eq_some_iff.mp H
  obtain ⟨t154, A80, H⟩ := H
  replace H : ((reedpiperef14_Great.f k a1_0 a1_1 a1_2 l1_3 l2 l3 l4).bind fun t155 => (if t155 = true then (reedpipelaw14_QuantOwn.j0 k a0 l2 l3 l4 a5 a6 t154 true a1_0 a1_1 a1_2 l1_3) else (reedpipelaw14_QuantOwn.j0 k a0 l2 l3 l4 a5 a6 t154 (!t154) a1_0 a1_1 a1_2 l1_3))) = some r := H
  have A8 := Aside0.mk A80
  clear A80
  have HC9 := Aside0.mk H
  clear H
  go_enter Try.func4, Try.ntmps4
  go_upto_region 2 with (first | ((with_reducible refine gate_dst (N := 8) rfl ?_); (try (refine gate_guard (by rfl) ?_; dsimp only)); refine box_event ?hg (N := 8) ?hd (cs := #[.int .u8 a1_0, .int .u8 a1_1, .int .i64 a1_2, .slice A1_3 l1_3.length c1_3]) (t := 24) ?hr ?_; (case hd => rfl); (case hg => rfl); (case hr => first | (go_simp; done) | (go_simp; rfl)); intro gb153 hg w10 hbox hb; have n0_ := Aside0.mk (below_step (by repeat (first | (with_reducible first | exact HB.out | apply below_alloc | apply pw_below_drewN | apply below_drew1) | exact HB.out)) hb); have n1_ := Aside0.mk (hbox); have n2_ := Aside0.mk ((by rw [hg]; exact (below_size (by repeat (first | (with_reducible first | exact HB.out | apply below_alloc | apply pw_below_drewN | apply below_drew1) | exact HB.out))) : w.heap.size ≤ gb153)); have n3_ := Aside0.mk ((by rw [hg]; exact (below_size (by repeat (first | (with_reducible first | exact HB.out | apply below_alloc | apply pw_below_drewN | apply below_drew1) | exact HB.out))) : w.heap.size ≤ gb153)); clear HB; have HB := n0_; have BK153 := n1_; have GW153 := n2_; have GE153 := n3_; clear n0_ n1_ n2_ n3_; clear hb hbox hg) | ((with_reducible refine gate_callee (f := 8) rfl ?_); refine goesL_ (some 30) rfl rfl Try.func8 (by kernel_rfl) rfl #[] rfl (by (try simp only [List.map_toArray, List.map_cons, List.map_nil]); first | done | rfl | (simp only [List.length_drop, List.length_take]; rfl)) ?_; (with_reducible refine (reedpipelaw14_alive.calls  t154 _ A8.out).mono ?_); rintro e w11 ⟨rfl, hb⟩; refine ⟨_, rfl, ?_⟩; have n0_ := Aside0.mk (blk_below (g := gb153) (o := .cells #[.int .u8 a1_0, .int .u8 a1_1, .int .i64 a1_2, .slice A1_3 l1_3.length c1_3] 24 (0, 0)) (by (with_reducible repeat (first | refine blk_drewN ?_ _ | refine blk_drew ?_ | refine blk_alloc ?_ _)); exact BK153.out) hb); have n1_ := Aside0.mk (below_step (by repeat (first | (with_reducible first | exact HB.out | apply below_alloc | apply pw_below_drewN | apply below_drew1 | refine below_set ?_ GE153.out) | exact HB.out)) hb); clear BK153; clear HB; have BK153 := n0_; have HB := n1_; clear n0_ n1_; (try clear hb); (try clear hb2); (try clear hk); (try clear hi)))
  (try simp only [Act.put, List.setIfInBounds_toArray, List.set_cons_zero, List.set_cons_succ])
  go_cut [39] (fun v39 wc => ∃ (kq : Nat) (x39_8 : Bool), v39 = .bool x39_8 ∧ Aside0 (reedpipelaw14_QuantOwn.j0 kq a0 l2 l3 l4 a5 a6 t154 x39_8 a1_0 a1_1 a1_2 l1_3 = some r) ∧ Aside0 (kq ≤ k) ∧ Aside0 (wc.heap[gb153]? = some (.cells #[.int .u8 a1_0, .int .u8 a1_1, .int .i64 a1_2, (.slice A1_3 l1_3.length c1_3)] 24 (0, 0))) ∧ Aside0 (Below w.heap.size w wc))
  case first =>
    have H := HC9.out
    clear HC9
    replace H := Option.bind_eq_some_iff.mp H
    obtain ⟨t155, A120, H⟩ := H
    replace H : (if t155 = true then (reedpipelaw14_QuantOwn.j0 k a0 l2 l3 l4 a5 a6 t154 true a1_0 a1_1 a1_2 l1_3) else (reedpipelaw14_QuantOwn.j0 k a0 l2 l3 l4 a5 a6 t154 (!t154) a1_0 a1_1 a1_2 l1_3)) = some r := H
    have A12 := Aside0.mk A120
    clear A120
    by_cases c13 : t155 = true
    · subst c13
      have H1 : (reedpipelaw14_QuantOwn.j0 k a0 l2 l3 l4 a5 a6 t154 true a1_0 a1_1 a1_2 l1_3) = some r := by rw [if_pos rfl] at H; exact H
      clear H
      have H := H1
      clear H1
      as_aux_lemma =>
        (try rw [← hji104] at H)
        (try rw [← hji63] at H)
        (try rw [← hji80] at H)
        (try rw [← hji87] at H)
        have H' := Aside0.mk H
        clear H
        have hcz14_0 : w11.cell? ⟨gb153, 0, none⟩ = some (.int .u8 a1_0) := (blk_cell BK153.out 0).trans rfl
        have hcz14_1 : w11.cell? ⟨gb153, 1, none⟩ = some (.int .u8 a1_1) := (blk_cell BK153.out 1).trans rfl
        have hcz14_2 : w11.cell? ⟨gb153, 2, none⟩ = some (.int .i64 a1_2) := (blk_cell BK153.out 2).trans rfl
        have hcz14_3 : w11.cell? ⟨gb153, 3, none⟩ = some (.slice A1_3 l1_3.length c1_3) := (blk_cell BK153.out 3).trans rfl
        have hfz14_0 := blk_frozen BK153.out 0
        have hfz14_1 := blk_frozen BK153.out 1
        have hfz14_2 := blk_frozen BK153.out 2
        have hfz14_3 := blk_frozen BK153.out 3
        go_wp2_with (first | ((with_reducible refine gate_callee (f := 9) rfl ?_); refine goesL_ (some 35) rfl rfl Try.func9 (by kernel_rfl) rfl #[.agg #[.int .u8 a1_0, .int .u8 a1_1, .int .i64 a1_2, .slice A1_3 l1_3.length c1_3], .slice A2 l2.length c2, .slice A3 l3.length c3, .slice A4 l4.length c4] rfl (by (try simp only [List.map_toArray, List.map_cons, List.map_nil]); first | done | rfl | (simp only [List.length_drop, List.length_take]; rfl)) ?_; (with_reducible refine (reedpiperef14_Great.calls k a1_0 a1_1 a1_2 _ _ l1_3 _ _ l2 _ _ l3 _ _ l4 true _ ?side1 ?side2 ?side3 ?side4 ?side5 ?side6 ?side7 ?side8 A12.out).mono ?_); (case side1 => repeat (first | exact (Kd.C_below HR1_3.out HB.out) | (with_reducible refine Kd.C_alloc ?_ _) | (with_reducible refine Kd.C_drewN ?_ _) | (with_reducible refine Kd.C_drew ?_))); (case side2 => exact HC1_3.out); (case side3 => repeat (first | exact (Kd.C_below HR2.out HB.out) | (with_reducible refine Kd.C_alloc ?_ _) | (with_reducible refine Kd.C_drewN ?_ _) | (with_reducible refine Kd.C_drew ?_))); (case side4 => exact HC2.out); (case side5 => repeat (first | exact (Kd.C_below HR3.out HB.out) | (with_reducible refine Kd.C_alloc ?_ _) | (with_reducible refine Kd.C_drewN ?_ _) | (with_reducible refine Kd.C_drew ?_))); (case side6 => exact HC3.out); (case side7 => repeat (first | exact (Kd.C_below HR4.out HB.out) | (with_reducible refine Kd.C_alloc ?_ _) | (with_reducible refine Kd.C_drewN ?_ _) | (with_reducible refine Kd.C_drew ?_))); (case side8 => exact HC4.out); rintro e w15 ⟨rfl, hb⟩; refine ⟨_, rfl, ?_⟩; have n0_ := Aside0.mk (blk_below (g := gb153) (o := .cells #[.int .u8 a1_0, .int .u8 a1_1, .int .i64 a1_2, .slice A1_3 l1_3.length c1_3] 24 (0, 0)) (by (with_reducible repeat (first | refine blk_drewN ?_ _ | refine blk_drew ?_ | refine blk_alloc ?_ _)); exact BK153.out) hb); have n1_ := Aside0.mk (below_step (by repeat (first | (with_reducible first | exact HB.out | apply below_alloc | apply pw_below_drewN | apply below_drew1 | refine below_set ?_ GE153.out) | exact HB.out)) hb); clear BK153; clear HB; have BK153 := n0_; have HB := n1_; clear n0_ n1_; (try clear hb); (try clear hb2); (try clear hk); (try clear hi)))
        go_meet
        case rel => exact ⟨_, (true), (by first | rfl | (simp; done) | (simp [*]; done)), H', ⟨by first | omega | exact Nat.le_refl _⟩, ⟨by (with_reducible repeat (first | refine blk_drewN ?_ _ | refine blk_drew ?_ | refine blk_alloc ?_ _)); exact BK153.out⟩, ⟨by repeat (first | (with_reducible first | exact HB.out | apply below_alloc | apply pw_below_drewN | apply below_drew1 | refine below_set ?_ GE153.out) | exact HB.out)⟩⟩
    · replace c13 := Bool.eq_false_iff.mpr c13
      subst c13
      have H1 : (reedpipelaw14_QuantOwn.j0 k a0 l2 l3 l4 a5 a6 t154 (!t154) a1_0 a1_1 a1_2 l1_3) = some r := by rw [if_neg (show ¬ (false = true) by decide)] at H; exact H
      clear H
      have H := H1
      clear H1
      as_aux_lemma =>
        (try rw [← hji104] at H)
        (try rw [← hji63] at H)
        (try rw [← hji80] at H)
        (try rw [← hji87] at H)
        have H' := Aside0.mk H
        clear H
        have hcz16_0 : w11.cell? ⟨gb153, 0, none⟩ = some (.int .u8 a1_0) := (blk_cell BK153.out 0).trans rfl
        have hcz16_1 : w11.cell? ⟨gb153, 1, none⟩ = some (.int .u8 a1_1) := (blk_cell BK153.out 1).trans rfl
        have hcz16_2 : w11.cell? ⟨gb153, 2, none⟩ = some (.int .i64 a1_2) := (blk_cell BK153.out 2).trans rfl
        have hcz16_3 : w11.cell? ⟨gb153, 3, none⟩ = some (.slice A1_3 l1_3.length c1_3) := (blk_cell BK153.out 3).trans rfl
        have hfz16_0 := blk_frozen BK153.out 0
        have hfz16_1 := blk_frozen BK153.out 1
        have hfz16_2 := blk_frozen BK153.out 2
        have hfz16_3 := blk_frozen BK153.out 3
        go_wp2_with (first | ((with_reducible refine gate_callee (f := 9) rfl ?_); refine goesL_ (some 35) rfl rfl Try.func9 (by kernel_rfl) rfl #[.agg #[.int .u8 a1_0, .int .u8 a1_1, .int .i64 a1_2, .slice A1_3 l1_3.length c1_3], .slice A2 l2.length c2, .slice A3 l3.length c3, .slice A4 l4.length c4] rfl (by (try simp only [List.map_toArray, List.map_cons, List.map_nil]); first | done | rfl | (simp only [List.length_drop, List.length_take]; rfl)) ?_; (with_reducible refine (reedpiperef14_Great.calls k a1_0 a1_1 a1_2 _ _ l1_3 _ _ l2 _ _ l3 _ _ l4 false _ ?side1 ?side2 ?side3 ?side4 ?side5 ?side6 ?side7 ?side8 A12.out).mono ?_); (case side1 => repeat (first | exact (Kd.C_below HR1_3.out HB.out) | (with_reducible refine Kd.C_alloc ?_ _) | (with_reducible refine Kd.C_drewN ?_ _) | (with_reducible refine Kd.C_drew ?_))); (case side2 => exact HC1_3.out); (case side3 => repeat (first | exact (Kd.C_below HR2.out HB.out) | (with_reducible refine Kd.C_alloc ?_ _) | (with_reducible refine Kd.C_drewN ?_ _) | (with_reducible refine Kd.C_drew ?_))); (case side4 => exact HC2.out); (case side5 => repeat (first | exact (Kd.C_below HR3.out HB.out) | (with_reducible refine Kd.C_alloc ?_ _) | (with_reducible refine Kd.C_drewN ?_ _) | (with_reducible refine Kd.C_drew ?_))); (case side6 => exact HC3.out); (case side7 => repeat (first | exact (Kd.C_below HR4.out HB.out) | (with_reducible refine Kd.C_alloc ?_ _) | (with_reducible refine Kd.C_drewN ?_ _) | (with_reducible refine Kd.C_drew ?_))); (case side8 => exact HC4.out); rintro e w17 ⟨rfl, hb⟩; refine ⟨_, rfl, ?_⟩; have n0_ := Aside0.mk (blk_below (g := gb153) (o := .cells #[.int .u8 a1_0, .int .u8 a1_1, .int .i64 a1_2, .slice A1_3 l1_3.length c1_3] 24 (0, 0)) (by (with_reducible repeat (first | refine blk_drewN ?_ _ | refine blk_drew ?_ | refine blk_alloc ?_ _)); exact BK153.out) hb); have n1_ := Aside0.mk (below_step (by repeat (first | (with_reducible first | exact HB.out | apply below_alloc | apply pw_below_drewN | apply below_drew1 | refine below_set ?_ GE153.out) | exact HB.out)) hb); clear BK153; clear HB; have BK153 := n0_; have HB := n1_; clear n0_ n1_; (try clear hb); (try clear hb2); (try clear hk); (try clear hi)))
        go_meet
        case rel => exact ⟨_, (!t154), (by first | rfl | (simp; done) | (simp [*]; done)), H', ⟨by first | omega | exact Nat.le_refl _⟩, ⟨by (with_reducible repeat (first | refine blk_drewN ?_ _ | refine blk_drew ?_ | refine blk_alloc ?_ _)); exact BK153.out⟩, ⟨by repeat (first | (with_reducible first | exact HB.out | apply below_alloc | apply pw_below_drewN | apply below_drew1 | refine below_set ?_ GE153.out) | exact HB.out)⟩⟩
  case rest =>
    clear HC9
    try clear c1
    try clear c2
    try clear p2
    try clear c3
    try clear c4
    try clear c8
    try clear c9
    try clear c13
    try clear hcz14_0
    try clear hcz14_1
    try clear hcz14_2
    try clear hcz14_3
    try clear hcz16_0
    try clear hcz16_1
    try clear hcz16_2
    try clear hcz16_3
    try clear hfz14_0
    try clear hfz14_1
    try clear hfz14_2
    try clear hfz14_3
    try clear hfz16_0
    try clear hfz16_1
    try clear hfz16_2
    try clear hfz16_3
    obtain ⟨kq, x39_8, rfl, HA, HJ8, BK153, HB⟩ := hcut
    cases kq with
    | zero => exact absurd HA.out (by simp [reedpipelaw14_QuantOwn.j0])
    | succ kj8 =>
      have H := HA.out
      clear HA
      simp only [reedpipelaw14_QuantOwn.j0] at H
      by_cases c18 : x39_8 = true
      · subst c18
        have H1 : (some t154) = some r := by rw [if_pos rfl] at H; exact H
        clear H
        have H := H1
        clear H1
        as_aux_lemma =>
          obtain rfl := Option.some.inj H
          go_wp2
          go_ret
          exact ⟨by first | rfl | (simp [errW_none, errW_some] <;> rfl) | (simp [*, errW_none, errW_some] <;> rfl), by repeat (first | (with_reducible first | exact HB.out | apply below_alloc | apply pw_below_drewN | apply below_drew1 | refine below_set ?_ GE153.out) | exact HB.out)⟩
      · replace c18 := Bool.eq_false_iff.mpr c18
        subst c18
        have H1 : ((quant_Lines.f a0 a1_0 a1_1 a1_2 l1_3 l2 l3 l4).bind fun bt156 => ((quant_Quantise.f a0 a1_0 a1_1 a1_2 l1_3 l2 l3 l4).bind fun bt160 => ((info_Windows.f kj8 a1_0 a1_1 a1_2 l1_3).bind fun bt164 => (if bt164.2 = 0 then (if a5 < 0 then (reedpipelaw14_QuantOwn.j1 kj8 a0 l2 l3 l4 a5 a6 t154 bt156.1 bt156.2 bt160.1 bt160.2 bt164.1 true a1_0 a1_1 a1_2 l1_3) else (if a5 ≥ bt164.1 then (reedpipelaw14_QuantOwn.j1 kj8 a0 l2 l3 l4 a5 a6 t154 bt156.1 bt156.2 bt160.1 bt160.2 bt164.1 true a1_0 a1_1 a1_2 l1_3) else (if a6 < 0 then (reedpipelaw14_QuantOwn.j1 kj8 a0 l2 l3 l4 a5 a6 t154 bt156.1 bt156.2 bt160.1 bt160.2 bt164.1 true a1_0 a1_1 a1_2 l1_3) else (if bt164.1 = 0 then (none) else (if a6 ≥ (wrap64 (Int.tdiv (256 : Int) bt164.1)) then (reedpipelaw14_QuantOwn.j1 kj8 a0 l2 l3 l4 a5 a6 t154 bt156.1 bt156.2 bt160.1 bt160.2 bt164.1 true a1_0 a1_1 a1_2 l1_3) else (reedpipelaw14_QuantOwn.j1 kj8 a0 l2 l3 l4 a5 a6 t154 bt156.1 bt156.2 bt160.1 bt160.2 bt164.1 ((l4.length : Int) != 256) a1_0 a1_1 a1_2 l1_3)))))) else (reedpipelaw14_QuantOwn.j1 kj8 a0 l2 l3 l4 a5 a6 t154 bt156.1 bt156.2 bt160.1 bt160.2 bt164.1 true a1_0 a1_1 a1_2 l1_3))))) = some r := by rw [if_neg (show ¬ (false = true) by decide)] at H; exact H
        clear H
        have H := H1
        clear H1
        replace H := Option.bind_eq_some_iff.mp H
        obtain ⟨⟨t156, t159⟩, A190, H⟩ := H
        replace H : ((quant_Quantise.f a0 a1_0 a1_1 a1_2 l1_3 l2 l3 l4).bind fun bt160 => ((info_Windows.f kj8 a1_0 a1_1 a1_2 l1_3).bind fun bt164 => (if bt164.2 = 0 then (if a5 < 0 then (reedpipelaw14_QuantOwn.j1 kj8 a0 l2 l3 l4 a5 a6 t154 t156 t159 bt160.1 bt160.2 bt164.1 true a1_0 a1_1 a1_2 l1_3) else (if a5 ≥ bt164.1 then (reedpipelaw14_QuantOwn.j1 kj8 a0 l2 l3 l4 a5 a6 t154 t156 t159 bt160.1 bt160.2 bt164.1 true a1_0 a1_1 a1_2 l1_3) else (if a6 < 0 then (reedpipelaw14_QuantOwn.j1 kj8 a0 l2 l3 l4 a5 a6 t154 t156 t159 bt160.1 bt160.2 bt164.1 true a1_0 a1_1 a1_2 l1_3) else (if bt164.1 = 0 then (none) else (if a6 ≥ (wrap64 (Int.tdiv (256 : Int) bt164.1)) then (reedpipelaw14_QuantOwn.j1 kj8 a0 l2 l3 l4 a5 a6 t154 t156 t159 bt160.1 bt160.2 bt164.1 true a1_0 a1_1 a1_2 l1_3) else (reedpipelaw14_QuantOwn.j1 kj8 a0 l2 l3 l4 a5 a6 t154 t156 t159 bt160.1 bt160.2 bt164.1 ((l4.length : Int) != 256) a1_0 a1_1 a1_2 l1_3)))))) else (reedpipelaw14_QuantOwn.j1 kj8 a0 l2 l3 l4 a5 a6 t154 t156 t159 bt160.1 bt160.2 bt164.1 true a1_0 a1_1 a1_2 l1_3)))) = some r := H
        have A19 := Aside0.mk A190
        clear A190
        replace H := Option.bind_eq_some_iff.mp H
        obtain ⟨⟨t160, t163⟩, A200, H⟩ := H
        replace H : ((info_Windows.f kj8 a1_0 a1_1 a1_2 l1_3).bind fun bt164 => (if bt164.2 = 0 then (if a5 < 0 then (reedpipelaw14_QuantOwn.j1 kj8 a0 l2 l3 l4 a5 a6 t154 t156 t159 t160 t163 bt164.1 true a1_0 a1_1 a1_2 l1_3) else (if a5 ≥ bt164.1 then (reedpipelaw14_QuantOwn.j1 kj8 a0 l2 l3 l4 a5 a6 t154 t156 t159 t160 t163 bt164.1 true a1_0 a1_1 a1_2 l1_3) else (if a6 < 0 then (reedpipelaw14_QuantOwn.j1 kj8 a0 l2 l3 l4 a5 a6 t154 t156 t159 t160 t163 bt164.1 true a1_0 a1_1 a1_2 l1_3) else (if bt164.1 = 0 then (none) else (if a6 ≥ (wrap64 (Int.tdiv (256 : Int) bt164.1)) then (reedpipelaw14_QuantOwn.j1 kj8 a0 l2 l3 l4 a5 a6 t154 t156 t159 t160 t163 bt164.1 true a1_0 a1_1 a1_2 l1_3) else (reedpipelaw14_QuantOwn.j1 kj8 a0 l2 l3 l4 a5 a6 t154 t156 t159 t160 t163 bt164.1 ((l4.length : Int) != 256) a1_0 a1_1 a1_2 l1_3)))))) else (reedpipelaw14_QuantOwn.j1 kj8 a0 l2 l3 l4 a5 a6 t154 t156 t159 t160 t163 bt164.1 true a1_0 a1_1 a1_2 l1_3))) = some r := H
        have A20 := Aside0.mk A200
        clear A200
        replace H := Option.bind_eq_some_iff.mp H
        obtain ⟨⟨t164, t165⟩, A210, H⟩ := H
        replace H : (if t165 = 0 then (if a5 < 0 then (reedpipelaw14_QuantOwn.j1 kj8 a0 l2 l3 l4 a5 a6 t154 t156 t159 t160 t163 t164 true a1_0 a1_1 a1_2 l1_3) else (if a5 ≥ t164 then (reedpipelaw14_QuantOwn.j1 kj8 a0 l2 l3 l4 a5 a6 t154 t156 t159 t160 t163 t164 true a1_0 a1_1 a1_2 l1_3) else (if a6 < 0 then (reedpipelaw14_QuantOwn.j1 kj8 a0 l2 l3 l4 a5 a6 t154 t156 t159 t160 t163 t164 true a1_0 a1_1 a1_2 l1_3) else (if t164 = 0 then (none) else (if a6 ≥ (wrap64 (Int.tdiv (256 : Int) t164)) then (reedpipelaw14_QuantOwn.j1 kj8 a0 l2 l3 l4 a5 a6 t154 t156 t159 t160 t163 t164 true a1_0 a1_1 a1_2 l1_3) else (reedpipelaw14_QuantOwn.j1 kj8 a0 l2 l3 l4 a5 a6 t154 t156 t159 t160 t163 t164 ((l4.length : Int) != 256) a1_0 a1_1 a1_2 l1_3)))))) else (reedpipelaw14_QuantOwn.j1 kj8 a0 l2 l3 l4 a5 a6 t154 t156 t159 t160 t163 t164 true a1_0 a1_1 a1_2 l1_3)) = some r := H
        have A21 := Aside0.mk A210
        clear A210
        have HC22 := Aside0.mk H
        clear H
        have hcz23_0 : wc.cell? ⟨gb153, 0, none⟩ = some (.int .u8 a1_0) := (blk_cell BK153.out 0).trans rfl
        have hcz23_1 : wc.cell? ⟨gb153, 1, none⟩ = some (.int .u8 a1_1) := (blk_cell BK153.out 1).trans rfl
        have hcz23_2 : wc.cell? ⟨gb153, 2, none⟩ = some (.int .i64 a1_2) := (blk_cell BK153.out 2).trans rfl
        have hcz23_3 : wc.cell? ⟨gb153, 3, none⟩ = some (.slice A1_3 l1_3.length c1_3) := (blk_cell BK153.out 3).trans rfl
        have hfz23_0 := blk_frozen BK153.out 0
        have hfz23_1 := blk_frozen BK153.out 1
        have hfz23_2 := blk_frozen BK153.out 2
        have hfz23_3 := blk_frozen BK153.out 3
        go_upto_region 7 with (first | ((with_reducible refine gate_callee (f := 11) rfl ?_); refine goesL_ (some 47) rfl rfl Try.func11 (by kernel_rfl) rfl #[.int .i64 a0, .agg #[.int .u8 a1_0, .int .u8 a1_1, .int .i64 a1_2, .slice A1_3 l1_3.length c1_3], .slice A2 l2.length c2, .slice A3 l3.length c3, .slice A4 l4.length c4] rfl (by (try simp only [List.map_toArray, List.map_cons, List.map_nil]); first | done | rfl | (simp only [List.length_drop, List.length_take]; rfl)) ?_; (with_reducible refine (quant_Lines.calls a0 a1_0 a1_1 a1_2 _ _ l1_3 _ _ l2 _ _ l3 _ _ l4 t156 t159 _ ?side1 ?side2 ?side3 ?side4 ?side5 ?side6 ?side7 ?side8 A19.out).mono ?_); (case side1 => repeat (first | exact (Kd.C_below HR1_3.out HB.out) | (with_reducible refine Kd.C_alloc ?_ _) | (with_reducible refine Kd.C_drewN ?_ _) | (with_reducible refine Kd.C_drew ?_))); (case side2 => exact HC1_3.out); (case side3 => repeat (first | exact (Kd.C_below HR2.out HB.out) | (with_reducible refine Kd.C_alloc ?_ _) | (with_reducible refine Kd.C_drewN ?_ _) | (with_reducible refine Kd.C_drew ?_))); (case side4 => exact HC2.out); (case side5 => repeat (first | exact (Kd.C_below HR3.out HB.out) | (with_reducible refine Kd.C_alloc ?_ _) | (with_reducible refine Kd.C_drewN ?_ _) | (with_reducible refine Kd.C_drew ?_))); (case side6 => exact HC3.out); (case side7 => repeat (first | exact (Kd.C_below HR4.out HB.out) | (with_reducible refine Kd.C_alloc ?_ _) | (with_reducible refine Kd.C_drewN ?_ _) | (with_reducible refine Kd.C_drew ?_))); (case side8 => exact HC4.out); rintro e w24 ⟨v157, rfl, ho0, hb⟩; refine ⟨_, rfl, ?_⟩; have n0_ := Aside0.mk (Kd.R_lower ho0 (below_size (by repeat (first | (with_reducible first | exact HB.out | apply below_alloc | apply pw_below_drewN | apply below_drew1 | refine below_set ?_ GE153.out) | exact HB.out)))); have n1_ := Aside0.mk (blk_below (g := gb153) (o := .cells #[.int .u8 a1_0, .int .u8 a1_1, .int .i64 a1_2, .slice A1_3 l1_3.length c1_3] 24 (0, 0)) (by (with_reducible repeat (first | refine blk_drewN ?_ _ | refine blk_drew ?_ | refine blk_alloc ?_ _)); exact BK153.out) hb); have n2_ := Aside0.mk (below_step (by repeat (first | (with_reducible first | exact HB.out | apply below_alloc | apply pw_below_drewN | apply below_drew1 | refine below_set ?_ GE153.out) | exact HB.out)) hb); clear BK153; clear HB; have HO158 := n0_; have BK153 := n1_; have HB := n2_; clear n0_ n1_ n2_; (try clear hb); (try clear hb2); (try clear hk); (try clear hi); (try clear ho0); have hcz25_0 : w24.cell? ⟨gb153, 0, none⟩ = some (.int .u8 a1_0) := (blk_cell BK153.out 0).trans rfl; have hcz25_1 : w24.cell? ⟨gb153, 1, none⟩ = some (.int .u8 a1_1) := (blk_cell BK153.out 1).trans rfl; have hcz25_2 : w24.cell? ⟨gb153, 2, none⟩ = some (.int .i64 a1_2) := (blk_cell BK153.out 2).trans rfl; have hcz25_3 : w24.cell? ⟨gb153, 3, none⟩ = some (.slice A1_3 l1_3.length c1_3) := (blk_cell BK153.out 3).trans rfl; have hfz25_0 := blk_frozen BK153.out 0; have hfz25_1 := blk_frozen BK153.out 1; have hfz25_2 := blk_frozen BK153.out 2; have hfz25_3 := blk_frozen BK153.out 3) | ((with_reducible refine gate_callee (f := 10) rfl ?_); refine goesL_ (some 56) rfl rfl Try.func10 (by kernel_rfl) rfl #[.int .i64 a0, .agg #[.int .u8 a1_0, .int .u8 a1_1, .int .i64 a1_2, .slice A1_3 l1_3.length c1_3], .slice A2 l2.length c2, .slice A3 l3.length c3, .slice A4 l4.length c4] rfl (by (try simp only [List.map_toArray, List.map_cons, List.map_nil]); first | done | rfl | (simp only [List.length_drop, List.length_take]; rfl)) ?_; (with_reducible refine (quant_Quantise.calls a0 a1_0 a1_1 a1_2 _ _ l1_3 _ _ l2 _ _ l3 _ _ l4 t160 t163 _ ?side1 ?side2 ?side3 ?side4 ?side5 ?side6 ?side7 ?side8 A20.out).mono ?_); (case side1 => repeat (first | exact (Kd.C_below HR1_3.out HB.out) | (with_reducible refine Kd.C_alloc ?_ _) | (with_reducible refine Kd.C_drewN ?_ _) | (with_reducible refine Kd.C_drew ?_))); (case side2 => exact HC1_3.out); (case side3 => repeat (first | exact (Kd.C_below HR2.out HB.out) | (with_reducible refine Kd.C_alloc ?_ _) | (with_reducible refine Kd.C_drewN ?_ _) | (with_reducible refine Kd.C_drew ?_))); (case side4 => exact HC2.out); (case side5 => repeat (first | exact (Kd.C_below HR3.out HB.out) | (with_reducible refine Kd.C_alloc ?_ _) | (with_reducible refine Kd.C_drewN ?_ _) | (with_reducible refine Kd.C_drew ?_))); (case side6 => exact HC3.out); (case side7 => repeat (first | exact (Kd.C_below HR4.out HB.out) | (with_reducible refine Kd.C_alloc ?_ _) | (with_reducible refine Kd.C_drewN ?_ _) | (with_reducible refine Kd.C_drew ?_))); (case side8 => exact HC4.out); rintro e w26 ⟨v161, rfl, ho0, hb⟩; refine ⟨_, rfl, ?_⟩; have n0_ := Aside0.mk (Kd.R_elder' (by (with_reducible repeat (first | apply Kd.R_alloc | apply Kd.R_drewN | apply Kd.R_drew)); exact HO158.out) (Kd.R_base ho0) hb); have n1_ := Aside0.mk (Kd.R_lower (Kd.R_new' ho0 (Kd.R_lt (by (with_reducible repeat (first | apply Kd.R_alloc | apply Kd.R_drewN | apply Kd.R_drew)); exact HO158.out))) (below_size (by repeat (first | (with_reducible first | exact HB.out | apply below_alloc | apply pw_below_drewN | apply below_drew1 | refine below_set ?_ GE153.out) | exact HB.out)))); have n2_ := Aside0.mk (blk_below (g := gb153) (o := .cells #[.int .u8 a1_0, .int .u8 a1_1, .int .i64 a1_2, .slice A1_3 l1_3.length c1_3] 24 (0, 0)) (by (with_reducible repeat (first | refine blk_drewN ?_ _ | refine blk_drew ?_ | refine blk_alloc ?_ _)); exact BK153.out) hb); have n3_ := Aside0.mk (below_step (by repeat (first | (with_reducible first | exact HB.out | apply below_alloc | apply pw_below_drewN | apply below_drew1 | refine below_set ?_ GE153.out) | exact HB.out)) hb); clear HO158; clear BK153; clear HB; have HO158 := n0_; have HO162 := n1_; have BK153 := n2_; have HB := n3_; clear n0_ n1_ n2_ n3_; (try clear hb); (try clear hb2); (try clear hk); (try clear hi); (try clear ho0); have hcz27_0 : w26.cell? ⟨gb153, 0, none⟩ = some (.int .u8 a1_0) := (blk_cell BK153.out 0).trans rfl; have hcz27_1 : w26.cell? ⟨gb153, 1, none⟩ = some (.int .u8 a1_1) := (blk_cell BK153.out 1).trans rfl; have hcz27_2 : w26.cell? ⟨gb153, 2, none⟩ = some (.int .i64 a1_2) := (blk_cell BK153.out 2).trans rfl; have hcz27_3 : w26.cell? ⟨gb153, 3, none⟩ = some (.slice A1_3 l1_3.length c1_3) := (blk_cell BK153.out 3).trans rfl; have hfz27_0 := blk_frozen BK153.out 0; have hfz27_1 := blk_frozen BK153.out 1; have hfz27_2 := blk_frozen BK153.out 2; have hfz27_3 := blk_frozen BK153.out 3) | ((with_reducible refine gate_callee (f := 13) rfl ?_); refine goesL_ (some 61) rfl rfl Try.func13 (by kernel_rfl) rfl #[.agg #[.int .u8 a1_0, .int .u8 a1_1, .int .i64 a1_2, .slice A1_3 l1_3.length c1_3]] rfl (by (try simp only [List.map_toArray, List.map_cons, List.map_nil]); first | done | rfl | (simp only [List.length_drop, List.length_take]; rfl)) ?_; (with_reducible refine (info_Windows.calls kj8 a1_0 a1_1 a1_2 _ _ l1_3 t164 t165 _ ?side1 ?side2 A21.out).mono ?_); (case side1 => repeat (first | exact (Kd.C_below HR1_3.out HB.out) | (with_reducible refine Kd.C_alloc ?_ _) | (with_reducible refine Kd.C_drewN ?_ _) | (with_reducible refine Kd.C_drew ?_))); (case side2 => exact HC1_3.out); rintro e w28 ⟨rfl, hb⟩; refine ⟨_, rfl, ?_⟩; have n0_ := Aside0.mk (Kd.R_below (by (with_reducible repeat (first | apply Kd.R_alloc | apply Kd.R_drewN | apply Kd.R_drew)); exact HO158.out) hb); have n1_ := Aside0.mk (Kd.R_below (by (with_reducible repeat (first | apply Kd.R_alloc | apply Kd.R_drewN | apply Kd.R_drew)); exact HO162.out) hb); have n2_ := Aside0.mk (blk_below (g := gb153) (o := .cells #[.int .u8 a1_0, .int .u8 a1_1, .int .i64 a1_2, .slice A1_3 l1_3.length c1_3] 24 (0, 0)) (by (with_reducible repeat (first | refine blk_drewN ?_ _ | refine blk_drew ?_ | refine blk_alloc ?_ _)); exact BK153.out) hb); have n3_ := Aside0.mk (below_step (by repeat (first | (with_reducible first | exact HB.out | apply below_alloc | apply pw_below_drewN | apply below_drew1 | refine below_set ?_ GE153.out) | exact HB.out)) hb); clear HO158; clear HO162; clear BK153; clear HB; have HO158 := n0_; have HO162 := n1_; have BK153 := n2_; have HB := n3_; clear n0_ n1_ n2_ n3_; (try clear hb); (try clear hb2); (try clear hk); (try clear hi)))
        (try simp only [Act.put, List.setIfInBounds_toArray, List.set_cons_zero, List.set_cons_succ])
        go_cut [89] (fun v89 wc => ∃ (kq : Nat) (x89_21 : Bool), v89 = .bool x89_21 ∧ Aside0 (reedpipelaw14_QuantOwn.j1 kq a0 l2 l3 l4 a5 a6 t154 t156 t159 t160 t163 t164 x89_21 a1_0 a1_1 a1_2 l1_3 = some r) ∧ Aside0 (kq ≤ kj8) ∧ Aside0 (Kd.R (Kd.int .i64) 3 wc w.heap.size (fun k_ => some k_ ≠ (v161 : Value).ownBlock) v157 t156) ∧ Aside0 (Kd.R (Kd.int .i64) 3 wc w.heap.size (fun k_ => some k_ ≠ (v157 : Value).ownBlock) v161 t160) ∧ Aside0 (wc.heap[gb153]? = some (.cells #[.int .u8 a1_0, .int .u8 a1_1, .int .i64 a1_2, (.slice A1_3 l1_3.length c1_3)] 24 (0, 0))) ∧ Aside0 (Below w.heap.size w wc))
        case first =>
          have H := HC22.out
          clear HC22
          by_cases c29 : t165 = 0
          · rw [if_pos c29] at H
            have c29b0 : (t165 == 0) = true := beq_iff_eq.mpr c29
            have c29b1 : (t165 != 0) = false := bne_eq_false_iff_eq.mpr c29
            clear c29
            (first | rw [c29b0] | (simp only [i64_w, i32_w]; rw [c29b0]) | skip)
            by_cases c30 : a5 < 0
            · rw [if_pos c30] at H
              have c30b0 : decide (a5 < 0) = true := decide_eq_true c30
              clear c30
              as_aux_lemma =>
                (try rw [← hji104] at H)
                (try rw [← hji63] at H)
                (try rw [← hji80] at H)
                (try rw [← hji87] at H)
                have H' := Aside0.mk H
                clear H
                go_wp2
                go_meet
                case rel => exact ⟨_, (true), (by first | rfl | (simp; done) | (simp [*]; done)), H', ⟨by have := HJ8.out; first | omega | exact Nat.le_refl _⟩, ⟨by (with_reducible repeat (first | apply Kd.R_alloc | apply Kd.R_drewN | apply Kd.R_drew)); exact Kd.R_mono HO158.out (fun _ hk => hk.2)⟩, ⟨by (with_reducible repeat (first | apply Kd.R_alloc | apply Kd.R_drewN | apply Kd.R_drew)); exact Kd.R_mono HO162.out (fun _ hk => hk.2)⟩, ⟨by (with_reducible repeat (first | refine blk_drewN ?_ _ | refine blk_drew ?_ | refine blk_alloc ?_ _)); exact BK153.out⟩, ⟨by repeat (first | (with_reducible first | exact HB.out | apply below_alloc | apply pw_below_drewN | apply below_drew1 | refine below_set ?_ GE153.out) | exact HB.out)⟩⟩
            · rw [if_neg c30] at H
              have c30b0 : decide (a5 < 0) = false := decide_eq_false c30
              clear c30
              by_cases c31 : a5 ≥ t164
              · rw [if_pos c31] at H
                have c31b0 : decide (t164 ≤ a5) = true := decide_eq_true c31
                clear c31
                as_aux_lemma =>
                  (try rw [← hji104] at H)
                  (try rw [← hji63] at H)
                  (try rw [← hji80] at H)
                  (try rw [← hji87] at H)
                  have H' := Aside0.mk H
                  clear H
                  go_wp2
                  go_meet
                  case rel => exact ⟨_, (true), (by first | rfl | (simp; done) | (simp [*]; done)), H', ⟨by have := HJ8.out; first | omega | exact Nat.le_refl _⟩, ⟨by (with_reducible repeat (first | apply Kd.R_alloc | apply Kd.R_drewN | apply Kd.R_drew)); exact Kd.R_mono HO158.out (fun _ hk => hk.2)⟩, ⟨by (with_reducible repeat (first | apply Kd.R_alloc | apply Kd.R_drewN | apply Kd.R_drew)); exact Kd.R_mono HO162.out (fun _ hk => hk.2)⟩, ⟨by (with_reducible repeat (first | refine blk_drewN ?_ _ | refine blk_drew ?_ | refine blk_alloc ?_ _)); exact BK153.out⟩, ⟨by repeat (first | (with_reducible first | exact HB.out | apply below_alloc | apply pw_below_drewN | apply below_drew1 | refine below_set ?_ GE153.out) | exact HB.out)⟩⟩
              · rw [if_neg c31] at H
                have c31b0 : decide (t164 ≤ a5) = false := decide_eq_false c31
                clear c31
                by_cases c32 : a6 < 0
                · rw [if_pos c32] at H
                  have c32b0 : decide (a6 < 0) = true := decide_eq_true c32
                  clear c32
                  as_aux_lemma =>
                    (try rw [← hji104] at H)
                    (try rw [← hji63] at H)
                    (try rw [← hji80] at H)
                    (try rw [← hji87] at H)
                    have H' := Aside0.mk H
                    clear H
                    go_wp2
                    go_meet
                    case rel => exact ⟨_, (true), (by first | rfl | (simp; done) | (simp [*]; done)), H', ⟨by have := HJ8.out; first | omega | exact Nat.le_refl _⟩, ⟨by (with_reducible repeat (first | apply Kd.R_alloc | apply Kd.R_drewN | apply Kd.R_drew)); exact Kd.R_mono HO158.out (fun _ hk => hk.2)⟩, ⟨by (with_reducible repeat (first | apply Kd.R_alloc | apply Kd.R_drewN | apply Kd.R_drew)); exact Kd.R_mono HO162.out (fun _ hk => hk.2)⟩, ⟨by (with_reducible repeat (first | refine blk_drewN ?_ _ | refine blk_drew ?_ | refine blk_alloc ?_ _)); exact BK153.out⟩, ⟨by repeat (first | (with_reducible first | exact HB.out | apply below_alloc | apply pw_below_drewN | apply below_drew1 | refine below_set ?_ GE153.out) | exact HB.out)⟩⟩
                · rw [if_neg c32] at H
                  have c32b0 : decide (a6 < 0) = false := decide_eq_false c32
                  clear c32
                  by_cases c33 : t164 = 0
                  · rw [if_pos c33] at H
                    exact absurd H (by simp)
                  · rw [if_neg c33] at H
                    have c33b0 : (t164 == 0) = false := beq_eq_false_iff_ne.mpr c33
                    have c33b1 : (t164 != 0) = true := bne_iff_ne.mpr c33
                    by_cases c34 : a6 ≥ (wrap64 (Int.tdiv (256 : Int) t164))
                    · rw [if_pos c34] at H
                      have c34b0 : decide ((wrap64 (Int.tdiv (256 : Int) t164)) ≤ a6) = true := decide_eq_true c34
                      clear c34
                      as_aux_lemma =>
                        (try rw [← hji104] at H)
                        (try rw [← hji63] at H)
                        (try rw [← hji80] at H)
                        (try rw [← hji87] at H)
                        have H' := Aside0.mk H
                        clear H
                        go_wp2
                        go_meet
                        case rel => exact ⟨_, (true), (by first | rfl | (simp; done) | (simp [*]; done)), H', ⟨by have := HJ8.out; first | omega | exact Nat.le_refl _⟩, ⟨by (with_reducible repeat (first | apply Kd.R_alloc | apply Kd.R_drewN | apply Kd.R_drew)); exact Kd.R_mono HO158.out (fun _ hk => hk.2)⟩, ⟨by (with_reducible repeat (first | apply Kd.R_alloc | apply Kd.R_drewN | apply Kd.R_drew)); exact Kd.R_mono HO162.out (fun _ hk => hk.2)⟩, ⟨by (with_reducible repeat (first | refine blk_drewN ?_ _ | refine blk_drew ?_ | refine blk_alloc ?_ _)); exact BK153.out⟩, ⟨by repeat (first | (with_reducible first | exact HB.out | apply below_alloc | apply pw_below_drewN | apply below_drew1 | refine below_set ?_ GE153.out) | exact HB.out)⟩⟩
                    · rw [if_neg c34] at H
                      have c34b0 : decide ((wrap64 (Int.tdiv (256 : Int) t164)) ≤ a6) = false := decide_eq_false c34
                      clear c34
                      as_aux_lemma =>
                        (try rw [← hji104] at H)
                        (try rw [← hji63] at H)
                        (try rw [← hji80] at H)
                        (try rw [← hji87] at H)
                        have H' := Aside0.mk H
                        clear H
                        go_wp2
                        go_meet
                        case rel => exact ⟨_, (((l4.length : Int) != 256)), (by first | rfl | (simp; done) | (simp [*]; done)), H', ⟨by have := HJ8.out; first | omega | exact Nat.le_refl _⟩, ⟨by (with_reducible repeat (first | apply Kd.R_alloc | apply Kd.R_drewN | apply Kd.R_drew)); exact Kd.R_mono HO158.out (fun _ hk => hk.2)⟩, ⟨by (with_reducible repeat (first | apply Kd.R_alloc | apply Kd.R_drewN | apply Kd.R_drew)); exact Kd.R_mono HO162.out (fun _ hk => hk.2)⟩, ⟨by (with_reducible repeat (first | refine blk_drewN ?_ _ | refine blk_drew ?_ | refine blk_alloc ?_ _)); exact BK153.out⟩, ⟨by repeat (first | (with_reducible first | exact HB.out | apply below_alloc | apply pw_below_drewN | apply below_drew1 | refine below_set ?_ GE153.out) | exact HB.out)⟩⟩
          · rw [if_neg c29] at H
            have c29b0 : (t165 == 0) = false := beq_eq_false_iff_ne.mpr c29
            have c29b1 : (t165 != 0) = true := bne_iff_ne.mpr c29
            (first | rw [c29b0] | (simp only [i64_w, i32_w]; rw [c29b0]) | skip)
            as_aux_lemma =>
              (try rw [← hji104] at H)
              (try rw [← hji63] at H)
              (try rw [← hji80] at H)
              (try rw [← hji87] at H)
              have H' := Aside0.mk H
              clear H
              go_wp2
              go_meet
              case rel => exact ⟨_, (true), (by first | rfl | (simp; done) | (simp [*]; done)), H', ⟨by have := HJ8.out; first | omega | exact Nat.le_refl _⟩, ⟨by (with_reducible repeat (first | apply Kd.R_alloc | apply Kd.R_drewN | apply Kd.R_drew)); exact Kd.R_mono HO158.out (fun _ hk => hk.2)⟩, ⟨by (with_reducible repeat (first | apply Kd.R_alloc | apply Kd.R_drewN | apply Kd.R_drew)); exact Kd.R_mono HO162.out (fun _ hk => hk.2)⟩, ⟨by (with_reducible repeat (first | refine blk_drewN ?_ _ | refine blk_drew ?_ | refine blk_alloc ?_ _)); exact BK153.out⟩, ⟨by repeat (first | (with_reducible first | exact HB.out | apply below_alloc | apply pw_below_drewN | apply below_drew1 | refine below_set ?_ GE153.out) | exact HB.out)⟩⟩
        case rest =>
          clear HC22
          try clear c1
          try clear c2
          try clear p2
          try clear c3
          try clear c4
          try clear p6
          try clear c8
          try clear c9
          try clear c10
          try clear c11
          try clear c13
          try clear c18
          try clear c29
          try clear c29b0
          try clear c29b1
          try clear c30
          try clear c30b0
          try clear c31
          try clear c31b0
          try clear c32
          try clear c32b0
          try clear c33
          try clear c33b0
          try clear c33b1
          try clear c34
          try clear c34b0
          try clear hcz14_0
          try clear hcz14_1
          try clear hcz14_2
          try clear hcz14_3
          try clear hcz16_0
          try clear hcz16_1
          try clear hcz16_2
          try clear hcz16_3
          try clear hcz23_0
          try clear hcz23_1
          try clear hcz23_2
          try clear hcz23_3
          try clear hcz25_0
          try clear hcz25_1
          try clear hcz25_2
          try clear hcz25_3
          try clear hcz27_0
          try clear hcz27_1
          try clear hcz27_2
          try clear hcz27_3
          try clear hfz14_0
          try clear hfz14_1
          try clear hfz14_2
          try clear hfz14_3
          try clear hfz16_0
          try clear hfz16_1
          try clear hfz16_2
          try clear hfz16_3
          try clear hfz23_0
          try clear hfz23_1
          try clear hfz23_2
          try clear hfz23_3
          try clear hfz25_0
          try clear hfz25_1
          try clear hfz25_2
          try clear hfz25_3
          try clear hfz27_0
          try clear hfz27_1
          try clear hfz27_2
          try clear hfz27_3
          try clear p2
          obtain ⟨kq, x89_21, rfl, HA, HJ21, HO_16, HO_18, BK153, HB⟩ := hcut
          cases kq with
          | zero => exact absurd HA.out (by simp [reedpipelaw14_QuantOwn.j1])
          | succ kj21 =>
            have H := HA.out
            clear HA
            simp only [reedpipelaw14_QuantOwn.j1] at H
            by_cases c35 : x89_21 = true
            · subst c35
              have H1 : (some t154) = some r := by rw [if_pos rfl] at H; exact H
              clear H
              have H := H1
              clear H1
              as_aux_lemma =>
                obtain rfl := Option.some.inj H
                go_wp2
                go_ret
                exact ⟨by first | rfl | (simp [errW_none, errW_some] <;> rfl) | (simp [*, errW_none, errW_some] <;> rfl), by repeat (first | (with_reducible first | exact HB.out | apply below_alloc | apply pw_below_drewN | apply below_drew1 | refine below_set ?_ GE153.out) | exact HB.out)⟩
            · replace c35 := Bool.eq_false_iff.mpr c35
              subst c35
              have H1 : (if t164 = 0 then (none) else ((band_Of.f kj21 a0 (a1_0 == 2) a6).bind fun bt166 => ((info_Group.f kj21 a1_0 a1_1 a1_2 l1_3 a5).bind fun bt168 => (if t159 = 0 then (reedpipelaw14_QuantOwn.j2 kj21 l2 l3 l4 t154 t156 t159 t160 t163 (wrap64 ((wrap64 (a5 * (wrap64 (Int.tdiv (256 : Int) t164)))) + a6)) bt166.1 bt166.2 bt168.1 bt168.2 false a1_0 a1_1 a1_2 l1_3) else (reedpipelaw14_QuantOwn.j2 kj21 l2 l3 l4 t154 t156 t159 t160 t163 (wrap64 ((wrap64 (a5 * (wrap64 (Int.tdiv (256 : Int) t164)))) + a6)) bt166.1 bt166.2 bt168.1 bt168.2 (t163 != 0) a1_0 a1_1 a1_2 l1_3))))) = some r := by rw [if_neg (show ¬ (false = true) by decide)] at H; exact H
              clear H
              have H := H1
              clear H1
              by_cases c36 : t164 = 0
              · rw [if_pos c36] at H
                exact absurd H (by simp)
              · rw [if_neg c36] at H
                have c36b0 : (t164 == 0) = false := beq_eq_false_iff_ne.mpr c36
                have c36b1 : (t164 != 0) = true := bne_iff_ne.mpr c36
                replace H := Option.bind_eq_some_iff.mp H
                obtain ⟨⟨t166, t167⟩, A370, H⟩ := H
                replace H : ((info_Group.f kj21 a1_0 a1_1 a1_2 l1_3 a5).bind fun bt168 => (if t159 = 0 then (reedpipelaw14_QuantOwn.j2 kj21 l2 l3 l4 t154 t156 t159 t160 t163 (wrap64 ((wrap64 (a5 * (wrap64 (Int.tdiv (256 : Int) t164)))) + a6)) t166 t167 bt168.1 bt168.2 false a1_0 a1_1 a1_2 l1_3) else (reedpipelaw14_QuantOwn.j2 kj21 l2 l3 l4 t154 t156 t159 t160 t163 (wrap64 ((wrap64 (a5 * (wrap64 (Int.tdiv (256 : Int) t164)))) + a6)) t166 t167 bt168.1 bt168.2 (t163 != 0) a1_0 a1_1 a1_2 l1_3))) = some r := H
                have A37 := Aside0.mk A370
                clear A370
                replace H := Option.bind_eq_some_iff.mp H
                obtain ⟨⟨t168, t169⟩, A380, H⟩ := H
                replace H : (if t159 = 0 then (reedpipelaw14_QuantOwn.j2 kj21 l2 l3 l4 t154 t156 t159 t160 t163 (wrap64 ((wrap64 (a5 * (wrap64 (Int.tdiv (256 : Int) t164)))) + a6)) t166 t167 t168 t169 false a1_0 a1_1 a1_2 l1_3) else (reedpipelaw14_QuantOwn.j2 kj21 l2 l3 l4 t154 t156 t159 t160 t163 (wrap64 ((wrap64 (a5 * (wrap64 (Int.tdiv (256 : Int) t164)))) + a6)) t166 t167 t168 t169 (t163 != 0) a1_0 a1_1 a1_2 l1_3)) = some r := H
                have A38 := Aside0.mk A380
                clear A380
                have HC39 := Aside0.mk H
                clear H
                have hcz40_0 : wc.cell? ⟨gb153, 0, none⟩ = some (.int .u8 a1_0) := (blk_cell BK153.out 0).trans rfl
                have hcz40_1 : wc.cell? ⟨gb153, 1, none⟩ = some (.int .u8 a1_1) := (blk_cell BK153.out 1).trans rfl
                have hcz40_2 : wc.cell? ⟨gb153, 2, none⟩ = some (.int .i64 a1_2) := (blk_cell BK153.out 2).trans rfl
                have hcz40_3 : wc.cell? ⟨gb153, 3, none⟩ = some (.slice A1_3 l1_3.length c1_3) := (blk_cell BK153.out 3).trans rfl
                have hfz40_0 := blk_frozen BK153.out 0
                have hfz40_1 := blk_frozen BK153.out 1
                have hfz40_2 := blk_frozen BK153.out 2
                have hfz40_3 := blk_frozen BK153.out 3
                go_upto_region 12 with (first | ((with_reducible refine gate_callee (f := 14) rfl ?_); refine goesL_ (some 103) rfl rfl Try.func14 (by kernel_rfl) rfl #[.int .i64 a0, .bool (a1_0 == 2), .int .i64 a6] rfl (by (try simp only [List.map_toArray, List.map_cons, List.map_nil]); first | done | rfl | (simp only [List.length_drop, List.length_take]; rfl)) ?_; (with_reducible refine (band_Of.calls kj21 a0 (a1_0 == 2) a6 t166 t167 _ A37.out).mono ?_); rintro e w41 ⟨rfl, hb⟩; refine ⟨_, rfl, ?_⟩; have n0_ := Aside0.mk (Kd.R_below (by (with_reducible repeat (first | apply Kd.R_alloc | apply Kd.R_drewN | apply Kd.R_drew)); exact HO_16.out) hb); have n1_ := Aside0.mk (Kd.R_below (by (with_reducible repeat (first | apply Kd.R_alloc | apply Kd.R_drewN | apply Kd.R_drew)); exact HO_18.out) hb); have n2_ := Aside0.mk (blk_below (g := gb153) (o := .cells #[.int .u8 a1_0, .int .u8 a1_1, .int .i64 a1_2, .slice A1_3 l1_3.length c1_3] 24 (0, 0)) (by (with_reducible repeat (first | refine blk_drewN ?_ _ | refine blk_drew ?_ | refine blk_alloc ?_ _)); exact BK153.out) hb); have n3_ := Aside0.mk (below_step (by repeat (first | (with_reducible first | exact HB.out | apply below_alloc | apply pw_below_drewN | apply below_drew1 | refine below_set ?_ GE153.out) | exact HB.out)) hb); clear HO_16; clear HO_18; clear BK153; clear HB; have HO_16 := n0_; have HO_18 := n1_; have BK153 := n2_; have HB := n3_; clear n0_ n1_ n2_ n3_; (try clear hb); (try clear hb2); (try clear hk); (try clear hi); have hcz42_0 : w41.cell? ⟨gb153, 0, none⟩ = some (.int .u8 a1_0) := (blk_cell BK153.out 0).trans rfl; have hcz42_1 : w41.cell? ⟨gb153, 1, none⟩ = some (.int .u8 a1_1) := (blk_cell BK153.out 1).trans rfl; have hcz42_2 : w41.cell? ⟨gb153, 2, none⟩ = some (.int .i64 a1_2) := (blk_cell BK153.out 2).trans rfl; have hcz42_3 : w41.cell? ⟨gb153, 3, none⟩ = some (.slice A1_3 l1_3.length c1_3) := (blk_cell BK153.out 3).trans rfl; have hfz42_0 := blk_frozen BK153.out 0; have hfz42_1 := blk_frozen BK153.out 1; have hfz42_2 := blk_frozen BK153.out 2; have hfz42_3 := blk_frozen BK153.out 3) | ((with_reducible refine gate_callee (f := 15) rfl ?_); refine goesL_ (some 109) rfl rfl Try.func15 (by kernel_rfl) rfl #[.agg #[.int .u8 a1_0, .int .u8 a1_1, .int .i64 a1_2, .slice A1_3 l1_3.length c1_3], .int .i64 a5] rfl (by (try simp only [List.map_toArray, List.map_cons, List.map_nil]); first | done | rfl | (simp only [List.length_drop, List.length_take]; rfl)) ?_; (with_reducible refine (info_Group.calls kj21 a1_0 a1_1 a1_2 _ _ l1_3 a5 t168 t169 _ ?side1 ?side2 A38.out).mono ?_); (case side1 => repeat (first | exact (Kd.C_below HR1_3.out HB.out) | (with_reducible refine Kd.C_alloc ?_ _) | (with_reducible refine Kd.C_drewN ?_ _) | (with_reducible refine Kd.C_drew ?_))); (case side2 => exact HC1_3.out); rintro e w43 ⟨rfl, hb⟩; refine ⟨_, rfl, ?_⟩; have n0_ := Aside0.mk (Kd.R_below (by (with_reducible repeat (first | apply Kd.R_alloc | apply Kd.R_drewN | apply Kd.R_drew)); exact HO_16.out) hb); have n1_ := Aside0.mk (Kd.R_below (by (with_reducible repeat (first | apply Kd.R_alloc | apply Kd.R_drewN | apply Kd.R_drew)); exact HO_18.out) hb); have n2_ := Aside0.mk (blk_below (g := gb153) (o := .cells #[.int .u8 a1_0, .int .u8 a1_1, .int .i64 a1_2, .slice A1_3 l1_3.length c1_3] 24 (0, 0)) (by (with_reducible repeat (first | refine blk_drewN ?_ _ | refine blk_drew ?_ | refine blk_alloc ?_ _)); exact BK153.out) hb); have n3_ := Aside0.mk (below_step (by repeat (first | (with_reducible first | exact HB.out | apply below_alloc | apply pw_below_drewN | apply below_drew1 | refine below_set ?_ GE153.out) | exact HB.out)) hb); clear HO_16; clear HO_18; clear BK153; clear HB; have HO_16 := n0_; have HO_18 := n1_; have BK153 := n2_; have HB := n3_; clear n0_ n1_ n2_ n3_; (try clear hb); (try clear hb2); (try clear hk); (try clear hi)))
                (try simp only [Act.put, List.setIfInBounds_toArray, List.set_cons_zero, List.set_cons_succ])
                go_cut [117] (fun v117 wc => ∃ (kq : Nat) (x117_38 : Bool), v117 = .bool x117_38 ∧ Aside0 (reedpipelaw14_QuantOwn.j2 kq l2 l3 l4 t154 t156 t159 t160 t163 (wrap64 ((wrap64 (a5 * (wrap64 (Int.tdiv (256 : Int) t164)))) + a6)) t166 t167 t168 t169 x117_38 a1_0 a1_1 a1_2 l1_3 = some r) ∧ Aside0 (kq ≤ kj21) ∧ Aside0 (Kd.R (Kd.int .i64) 3 wc w.heap.size (fun k_ => some k_ ≠ (v161 : Value).ownBlock) v157 t156) ∧ Aside0 (Kd.R (Kd.int .i64) 3 wc w.heap.size (fun k_ => some k_ ≠ (v157 : Value).ownBlock) v161 t160) ∧ Aside0 (wc.heap[gb153]? = some (.cells #[.int .u8 a1_0, .int .u8 a1_1, .int .i64 a1_2, (.slice A1_3 l1_3.length c1_3)] 24 (0, 0))) ∧ Aside0 (Below w.heap.size w wc))
                case first =>
                  have H := HC39.out
                  clear HC39
                  by_cases c44 : t159 = 0
                  · rw [if_pos c44] at H
                    have c44b0 : (t159 == 0) = true := beq_iff_eq.mpr c44
                    have c44b1 : (t159 != 0) = false := bne_eq_false_iff_eq.mpr c44
                    clear c44
                    (first | rw [c44b0] | (simp only [i64_w, i32_w]; rw [c44b0]) | skip)
                    as_aux_lemma =>
                      (try rw [← hji104] at H)
                      (try rw [← hji63] at H)
                      (try rw [← hji80] at H)
                      (try rw [← hji87] at H)
                      have H' := Aside0.mk H
                      clear H
                      go_wp2
                      go_meet
                      case rel => exact ⟨_, (false), (by first | rfl | (simp; done) | (simp [*]; done)), H', ⟨by have := HJ8.out; have := HJ21.out; first | omega | exact Nat.le_refl _⟩, ⟨by (with_reducible repeat (first | apply Kd.R_alloc | apply Kd.R_drewN | apply Kd.R_drew)); exact HO_16.out⟩, ⟨by (with_reducible repeat (first | apply Kd.R_alloc | apply Kd.R_drewN | apply Kd.R_drew)); exact HO_18.out⟩, ⟨by (with_reducible repeat (first | refine blk_drewN ?_ _ | refine blk_drew ?_ | refine blk_alloc ?_ _)); exact BK153.out⟩, ⟨by repeat (first | (with_reducible first | exact HB.out | apply below_alloc | apply pw_below_drewN | apply below_drew1 | refine below_set ?_ GE153.out) | exact HB.out)⟩⟩
                  · rw [if_neg c44] at H
                    have c44b0 : (t159 == 0) = false := beq_eq_false_iff_ne.mpr c44
                    have c44b1 : (t159 != 0) = true := bne_iff_ne.mpr c44
                    (first | rw [c44b0] | (simp only [i64_w, i32_w]; rw [c44b0]) | skip)
                    as_aux_lemma =>
                      (try rw [← hji104] at H)
                      (try rw [← hji63] at H)
                      (try rw [← hji80] at H)
                      (try rw [← hji87] at H)
                      have H' := Aside0.mk H
                      clear H
                      go_wp2
                      go_meet
                      case rel => exact ⟨_, ((t163 != 0)), (by first | rfl | (simp; done) | (simp [*]; done)), H', ⟨by have := HJ8.out; have := HJ21.out; first | omega | exact Nat.le_refl _⟩, ⟨by (with_reducible repeat (first | apply Kd.R_alloc | apply Kd.R_drewN | apply Kd.R_drew)); exact HO_16.out⟩, ⟨by (with_reducible repeat (first | apply Kd.R_alloc | apply Kd.R_drewN | apply Kd.R_drew)); exact HO_18.out⟩, ⟨by (with_reducible repeat (first | refine blk_drewN ?_ _ | refine blk_drew ?_ | refine blk_alloc ?_ _)); exact BK153.out⟩, ⟨by repeat (first | (with_reducible first | exact HB.out | apply below_alloc | apply pw_below_drewN | apply below_drew1 | refine below_set ?_ GE153.out) | exact HB.out)⟩⟩
                case rest =>
                  clear HC39
                  try clear c1
                  try clear c2
                  try clear p2
                  try clear c3
                  try clear c4
                  try clear p6
                  try clear c8
                  try clear c9
                  try clear c10
                  try clear c11
                  try clear c13
                  try clear c14
                  try clear c15
                  try clear c18
                  try clear c29
                  try clear c29b0
                  try clear c29b1
                  try clear c30
                  try clear c30b0
                  try clear c31
                  try clear c31b0
                  try clear c32
                  try clear c32b0
                  try clear c33
                  try clear c33b0
                  try clear c33b1
                  try clear c34
                  try clear c34b0
                  try clear c35
                  try clear c36
                  try clear c36b0
                  try clear c36b1
                  try clear c44
                  try clear c44b0
                  try clear c44b1
                  try clear hcz14_0
                  try clear hcz14_1
                  try clear hcz14_2
                  try clear hcz14_3
                  try clear hcz16_0
                  try clear hcz16_1
                  try clear hcz16_2
                  try clear hcz16_3
                  try clear hcz23_0
                  try clear hcz23_1
                  try clear hcz23_2
                  try clear hcz23_3
                  try clear hcz25_0
                  try clear hcz25_1
                  try clear hcz25_2
                  try clear hcz25_3
                  try clear hcz27_0
                  try clear hcz27_1
                  try clear hcz27_2
                  try clear hcz27_3
                  try clear hcz40_0
                  try clear hcz40_1
                  try clear hcz40_2
                  try clear hcz40_3
                  try clear hcz42_0
                  try clear hcz42_1
                  try clear hcz42_2
                  try clear hcz42_3
                  try clear hfz14_0
                  try clear hfz14_1
                  try clear hfz14_2
                  try clear hfz14_3
                  try clear hfz16_0
                  try clear hfz16_1
                  try clear hfz16_2
                  try clear hfz16_3
                  try clear hfz23_0
                  try clear hfz23_1
                  try clear hfz23_2
                  try clear hfz23_3
                  try clear hfz25_0
                  try clear hfz25_1
                  try clear hfz25_2
                  try clear hfz25_3
                  try clear hfz27_0
                  try clear hfz27_1
                  try clear hfz27_2
                  try clear hfz27_3
                  try clear hfz40_0
                  try clear hfz40_1
                  try clear hfz40_2
                  try clear hfz40_3
                  try clear hfz42_0
                  try clear hfz42_1
                  try clear hfz42_2
                  try clear hfz42_3
                  try clear p2
                  try clear p6
                  obtain ⟨kq, x117_38, rfl, HA, HJ38, HO_16, HO_18, BK153, HB⟩ := hcut
                  cases kq with
                  | zero => exact absurd HA.out (by simp [reedpipelaw14_QuantOwn.j2])
                  | succ kj38 =>
                    have H := HA.out
                    clear HA
                    simp only [reedpipelaw14_QuantOwn.j2] at H
                    by_cases c45 : x117_38 = true
                    · subst c45
                      have H1 : (some t154) = some r := by rw [if_pos rfl] at H; exact H
                      clear H
                      have H := H1
                      clear H1
                      as_aux_lemma =>
                        obtain rfl := Option.some.inj H
                        go_wp2
                        go_ret
                        exact ⟨by first | rfl | (simp [errW_none, errW_some] <;> rfl) | (simp [*, errW_none, errW_some] <;> rfl), by repeat (first | (with_reducible first | exact HB.out | apply below_alloc | apply pw_below_drewN | apply below_drew1 | refine below_set ?_ GE153.out) | exact HB.out)⟩
                    · replace c45 := Bool.eq_false_iff.mpr c45
                      subst c45
                      have H1 : (if t167 = 0 then (if t169 = 0 then (reedpipelaw14_QuantOwn.j3 kj38 l2 l3 l4 t154 t156 t159 t160 t163 (wrap64 ((wrap64 (a5 * (wrap64 (Int.tdiv (256 : Int) t164)))) + a6)) t166 t167 t168 (decide (t168 ≥ (l2.length : Int))) a1_0 a1_1 a1_2 l1_3) else (reedpipelaw14_QuantOwn.j3 kj38 l2 l3 l4 t154 t156 t159 t160 t163 (wrap64 ((wrap64 (a5 * (wrap64 (Int.tdiv (256 : Int) t164)))) + a6)) t166 t167 t168 true a1_0 a1_1 a1_2 l1_3)) else (reedpipelaw14_QuantOwn.j3 kj38 l2 l3 l4 t154 t156 t159 t160 t163 (wrap64 ((wrap64 (a5 * (wrap64 (Int.tdiv (256 : Int) t164)))) + a6)) t166 t167 t168 true a1_0 a1_1 a1_2 l1_3)) = some r := by rw [if_neg (show ¬ (false = true) by decide)] at H; exact H
                      clear H
                      have H := H1
                      clear H1
                      have HC46 := Aside0.mk H
                      clear H
                      go_upto_region 14 with (fail)
                      go_cut [130] (fun v130 wc => ∃ (kq : Nat) (x130_45 : Bool), v130 = .bool x130_45 ∧ Aside0 (reedpipelaw14_QuantOwn.j3 kq l2 l3 l4 t154 t156 t159 t160 t163 (wrap64 ((wrap64 (a5 * (wrap64 (Int.tdiv (256 : Int) t164)))) + a6)) t166 t167 t168 x130_45 a1_0 a1_1 a1_2 l1_3 = some r) ∧ Aside0 (kq ≤ kj38) ∧ Aside0 (Kd.R (Kd.int .i64) 3 wc w.heap.size (fun k_ => some k_ ≠ (v161 : Value).ownBlock) v157 t156) ∧ Aside0 (Kd.R (Kd.int .i64) 3 wc w.heap.size (fun k_ => some k_ ≠ (v157 : Value).ownBlock) v161 t160) ∧ Aside0 (wc.heap[gb153]? = some (.cells #[.int .u8 a1_0, .int .u8 a1_1, .int .i64 a1_2, (.slice A1_3 l1_3.length c1_3)] 24 (0, 0))) ∧ Aside0 (Below w.heap.size w wc))
                      case first =>
                        have H := HC46.out
                        clear HC46
                        by_cases c47 : t167 = 0
                        · rw [if_pos c47] at H
                          have c47b0 : (t167 == 0) = true := beq_iff_eq.mpr c47
                          have c47b1 : (t167 != 0) = false := bne_eq_false_iff_eq.mpr c47
                          clear c47
                          (first | rw [c47b0] | (simp only [i64_w, i32_w]; rw [c47b0]) | skip)
                          by_cases c48 : t169 = 0
                          · rw [if_pos c48] at H
                            have c48b0 : (t169 == 0) = true := beq_iff_eq.mpr c48
                            have c48b1 : (t169 != 0) = false := bne_eq_false_iff_eq.mpr c48
                            clear c48
                            as_aux_lemma =>
                              (try rw [← hji104] at H)
                              (try rw [← hji63] at H)
                              (try rw [← hji80] at H)
                              (try rw [← hji87] at H)
                              have H' := Aside0.mk H
                              clear H
                              go_wp2
                              go_meet
                              case rel => exact ⟨_, (decide (t168 ≥ (l2.length : Int))), (by first | rfl | (simp; done) | (simp [*]; done)), H', ⟨by have := HJ8.out; have := HJ21.out; have := HJ38.out; first | omega | exact Nat.le_refl _⟩, ⟨by (with_reducible repeat (first | apply Kd.R_alloc | apply Kd.R_drewN | apply Kd.R_drew)); exact HO_16.out⟩, ⟨by (with_reducible repeat (first | apply Kd.R_alloc | apply Kd.R_drewN | apply Kd.R_drew)); exact HO_18.out⟩, ⟨by (with_reducible repeat (first | refine blk_drewN ?_ _ | refine blk_drew ?_ | refine blk_alloc ?_ _)); exact BK153.out⟩, ⟨by repeat (first | (with_reducible first | exact HB.out | apply below_alloc | apply pw_below_drewN | apply below_drew1 | refine below_set ?_ GE153.out) | exact HB.out)⟩⟩
                          · rw [if_neg c48] at H
                            have c48b0 : (t169 == 0) = false := beq_eq_false_iff_ne.mpr c48
                            have c48b1 : (t169 != 0) = true := bne_iff_ne.mpr c48
                            as_aux_lemma =>
                              (try rw [← hji104] at H)
                              (try rw [← hji63] at H)
                              (try rw [← hji80] at H)
                              (try rw [← hji87] at H)
                              have H' := Aside0.mk H
                              clear H
                              go_wp2
                              go_meet
                              case rel => exact ⟨_, (true), (by first | rfl | (simp; done) | (simp [*]; done)), H', ⟨by have := HJ8.out; have := HJ21.out; have := HJ38.out; first | omega | exact Nat.le_refl _⟩, ⟨by (with_reducible repeat (first | apply Kd.R_alloc | apply Kd.R_drewN | apply Kd.R_drew)); exact HO_16.out⟩, ⟨by (with_reducible repeat (first | apply Kd.R_alloc | apply Kd.R_drewN | apply Kd.R_drew)); exact HO_18.out⟩, ⟨by (with_reducible repeat (first | refine blk_drewN ?_ _ | refine blk_drew ?_ | refine blk_alloc ?_ _)); exact BK153.out⟩, ⟨by repeat (first | (with_reducible first | exact HB.out | apply below_alloc | apply pw_below_drewN | apply below_drew1 | refine below_set ?_ GE153.out) | exact HB.out)⟩⟩
                        · rw [if_neg c47] at H
                          have c47b0 : (t167 == 0) = false := beq_eq_false_iff_ne.mpr c47
                          have c47b1 : (t167 != 0) = true := bne_iff_ne.mpr c47
                          (first | rw [c47b0] | (simp only [i64_w, i32_w]; rw [c47b0]) | skip)
                          as_aux_lemma =>
                            (try rw [← hji104] at H)
                            (try rw [← hji63] at H)
                            (try rw [← hji80] at H)
                            (try rw [← hji87] at H)
                            have H' := Aside0.mk H
                            clear H
                            go_wp2
                            go_meet
                            case rel => exact ⟨_, (true), (by first | rfl | (simp; done) | (simp [*]; done)), H', ⟨by have := HJ8.out; have := HJ21.out; have := HJ38.out; first | omega | exact Nat.le_refl _⟩, ⟨by (with_reducible repeat (first | apply Kd.R_alloc | apply Kd.R_drewN | apply Kd.R_drew)); exact HO_16.out⟩, ⟨by (with_reducible repeat (first | apply Kd.R_alloc | apply Kd.R_drewN | apply Kd.R_drew)); exact HO_18.out⟩, ⟨by (with_reducible repeat (first | refine blk_drewN ?_ _ | refine blk_drew ?_ | refine blk_alloc ?_ _)); exact BK153.out⟩, ⟨by repeat (first | (with_reducible first | exact HB.out | apply below_alloc | apply pw_below_drewN | apply below_drew1 | refine below_set ?_ GE153.out) | exact HB.out)⟩⟩
                      case rest =>
                        clear HC46
                        try clear c1
                        try clear c2
                        try clear p2
                        try clear c3
                        try clear c4
                        try clear p6
                        try clear c8
                        try clear c9
                        try clear c10
                        try clear c11
                        try clear c13
                        try clear c14
                        try clear c15
                        try clear c18
                        try clear c29
                        try clear c29b0
                        try clear c29b1
                        try clear c30
                        try clear c30b0
                        try clear c31
                        try clear c31b0
                        try clear c32
                        try clear c32b0
                        try clear c33
                        try clear c33b0
                        try clear c33b1
                        try clear c34
                        try clear c34b0
                        try clear c35
                        try clear c36
                        try clear c36b0
                        try clear c36b1
                        try clear c44
                        try clear c44b0
                        try clear c44b1
                        try clear c45
                        try clear c47
                        try clear c47b0
                        try clear c47b1
                        try clear c48
                        try clear c48b0
                        try clear c48b1
                        try clear hcz14_0
                        try clear hcz14_1
                        try clear hcz14_2
                        try clear hcz14_3
                        try clear hcz16_0
                        try clear hcz16_1
                        try clear hcz16_2
                        try clear hcz16_3
                        try clear hcz23_0
                        try clear hcz23_1
                        try clear hcz23_2
                        try clear hcz23_3
                        try clear hcz25_0
                        try clear hcz25_1
                        try clear hcz25_2
                        try clear hcz25_3
                        try clear hcz27_0
                        try clear hcz27_1
                        try clear hcz27_2
                        try clear hcz27_3
                        try clear hcz40_0
                        try clear hcz40_1
                        try clear hcz40_2
                        try clear hcz40_3
                        try clear hcz42_0
                        try clear hcz42_1
                        try clear hcz42_2
                        try clear hcz42_3
                        try clear hfz14_0
                        try clear hfz14_1
                        try clear hfz14_2
                        try clear hfz14_3
                        try clear hfz16_0
                        try clear hfz16_1
                        try clear hfz16_2
                        try clear hfz16_3
                        try clear hfz23_0
                        try clear hfz23_1
                        try clear hfz23_2
                        try clear hfz23_3
                        try clear hfz25_0
                        try clear hfz25_1
                        try clear hfz25_2
                        try clear hfz25_3
                        try clear hfz27_0
                        try clear hfz27_1
                        try clear hfz27_2
                        try clear hfz27_3
                        try clear hfz40_0
                        try clear hfz40_1
                        try clear hfz40_2
                        try clear hfz40_3
                        try clear hfz42_0
                        try clear hfz42_1
                        try clear hfz42_2
                        try clear hfz42_3
                        try clear p2
                        try clear p6
                        obtain ⟨kq, x130_45, rfl, HA, HJ45, HO_16, HO_18, BK153, HB⟩ := hcut
                        cases kq with
                        | zero => exact absurd HA.out (by simp [reedpipelaw14_QuantOwn.j3])
                        | succ kj45 =>
                          have H := HA.out
                          clear HA
                          simp only [reedpipelaw14_QuantOwn.j3] at H
                          by_cases c49 : x130_45 = true
                          · subst c49
                            have H1 : (some false) = some r := by rw [if_pos rfl] at H; exact H
                            clear H
                            have H := H1
                            clear H1
                            exact absurd ((Option.some.inj H).trans HRT.out) (by decide)
                          · replace c49 := Bool.eq_false_iff.mpr c49
                            subst c49
                            have H1 : (if t166 < a1_2 then (if 0 ≤ t168 then (if t168 < (l2.length : Int) then (if 0 ≤ t166 then (if t166 < ((rd_L1 l2 t168).length : Int) then (if (rd (rd_L1 l2 t168) t166) ≥ 1 then (reedpipelaw14_QuantOwn.j4 kj45 l3 l4 t154 t156 t159 t160 t163 (wrap64 ((wrap64 (a5 * (wrap64 (Int.tdiv (256 : Int) t164)))) + a6)) t166 t167 t168 (decide ((rd (rd_L1 l2 t168) t166) ≤ 11))) else (reedpipelaw14_QuantOwn.j4 kj45 l3 l4 t154 t156 t159 t160 t163 (wrap64 ((wrap64 (a5 * (wrap64 (Int.tdiv (256 : Int) t164)))) + a6)) t166 t167 t168 false)) else (none)) else (none)) else (none)) else (none)) else (reedpipelaw14_QuantOwn.j4 kj45 l3 l4 t154 t156 t159 t160 t163 (wrap64 ((wrap64 (a5 * (wrap64 (Int.tdiv (256 : Int) t164)))) + a6)) t166 t167 t168 false)) = some r := by rw [if_neg (show ¬ (false = true) by decide)] at H; exact H
                            clear H
                            have H := H1
                            clear H1
                            have HC50 := Aside0.mk H
                            clear H
                            go_upto_region 16 with (fail)
                            go_cut [27] (fun v27 wc => ∃ (kq : Nat) (x27_49 : Bool), v27 = .bool x27_49 ∧ Aside0 (reedpipelaw14_QuantOwn.j4 kq l3 l4 t154 t156 t159 t160 t163 (wrap64 ((wrap64 (a5 * (wrap64 (Int.tdiv (256 : Int) t164)))) + a6)) t166 t167 t168 x27_49 = some r) ∧ Aside0 (kq ≤ kj45) ∧ Aside0 (Kd.R (Kd.int .i64) 3 wc w.heap.size (fun k_ => some k_ ≠ (v161 : Value).ownBlock) v157 t156) ∧ Aside0 (Kd.R (Kd.int .i64) 3 wc w.heap.size (fun k_ => some k_ ≠ (v157 : Value).ownBlock) v161 t160) ∧ Aside0 (wc.heap[gb153]? = some (.cells #[.int .u8 a1_0, .int .u8 a1_1, .int .i64 a1_2, (.slice A1_3 l1_3.length c1_3)] 24 (0, 0))) ∧ Aside0 (Below w.heap.size w wc))
                            case first =>
                              have H := HC50.out
                              clear HC50
                              by_cases c51 : t166 < a1_2
                              · rw [if_pos c51] at H
                                have c51b0 : decide (t166 < a1_2) = true := decide_eq_true c51
                                clear c51
                                (first | rw [c51b0] | (simp only [i64_w, i32_w]; rw [c51b0]) | skip)
                                by_cases c52 : 0 ≤ t168
                                · rw [if_pos c52] at H
                                  have c52b0 : decide (0 ≤ t168) = true := decide_eq_true c52
                                  clear c52
                                  by_cases c53 : t168 < (l2.length : Int)
                                  · rw [if_pos c53] at H
                                    have c53b0 : decide (t168 < (l2.length : Int)) = true := decide_eq_true c53
                                    clear c53
                                    by_cases c54 : 0 ≤ t166
                                    · rw [if_pos c54] at H
                                      have c54b0 : decide (0 ≤ t166) = true := decide_eq_true c54
                                      clear c54
                                      by_cases c55 : t166 < ((rd_L1 l2 t168).length : Int)
                                      · rw [if_pos c55] at H
                                        have c55b0 : decide (t166 < ((rd_L1 l2 t168).length : Int)) = true := decide_eq_true c55
                                        clear c55
                                        by_cases c56 : (rd (rd_L1 l2 t168) t166) ≥ 1
                                        · rw [if_pos c56] at H
                                          have c56b0 : decide (1 ≤ (rd (rd_L1 l2 t168) t166)) = true := decide_eq_true c56
                                          clear c56
                                          as_aux_lemma =>
                                            (try rw [← hji104] at H)
                                            (try rw [← hji63] at H)
                                            (try rw [← hji80] at H)
                                            (try rw [← hji87] at H)
                                            have H' := Aside0.mk H
                                            clear H
                                            have hcz57_0 : wc.cell? ⟨gb153, 0, none⟩ = some (.int .u8 a1_0) := (blk_cell BK153.out 0).trans rfl
                                            have hcz57_1 : wc.cell? ⟨gb153, 1, none⟩ = some (.int .u8 a1_1) := (blk_cell BK153.out 1).trans rfl
                                            have hcz57_2 : wc.cell? ⟨gb153, 2, none⟩ = some (.int .i64 a1_2) := (blk_cell BK153.out 2).trans rfl
                                            have hcz57_3 : wc.cell? ⟨gb153, 3, none⟩ = some (.slice A1_3 l1_3.length c1_3) := (blk_cell BK153.out 3).trans rfl
                                            have hfz57_0 := blk_frozen BK153.out 0
                                            have hfz57_1 := blk_frozen BK153.out 1
                                            have hfz57_2 := blk_frozen BK153.out 2
                                            have hfz57_3 := blk_frozen BK153.out 3
                                            have p170 : 0 ≤ (t168 : Int) := of_decide_eq_true (by first | (with_reducible assumption) | assumption)
                                            have q170 : t168 < (l2.length : Int) := of_decide_eq_true (by first | (with_reducible assumption) | assumption)
                                            obtain ⟨ad170, A170_0, c170_0, e170, hx170_0, hl170_0, hi170_0⟩ := at_L1 HR2.out t168 p170 q170
                                            cases e170
                                            replace hx170_0 := (HB.out.cell (World.block_lt_of_cell? w _ hx170_0)).trans hx170_0
                                            have HR170_0 := Aside0.mk hi170_0
                                            have HC170_0 := Aside0.mk hl170_0
                                            clear hi170_0 hl170_0
                                            replace p170 := eq_true p170
                                            replace q170 := eq_true q170
                                            have p171 : 0 ≤ (t166 : Int) := of_decide_eq_true (by first | (with_reducible assumption) | assumption)
                                            have q171 : t166 < ((rd_L1 l2 t168).length : Int) := of_decide_eq_true (by first | (with_reducible assumption) | assumption)
                                            obtain ⟨ad171, e171, hx171_0⟩ := Kd.at_int HR170_0.out t166 p171 q171
                                            cases e171
                                            replace hx171_0 := (HB.out.cell (World.block_lt_of_cell? w _ hx171_0)).trans hx171_0
                                            replace p171 := eq_true p171
                                            replace q171 := eq_true q171
                                            have p172 : 0 ≤ (t168 : Int) := of_decide_eq_true (by first | (with_reducible assumption) | assumption)
                                            have q172 : t168 < (l2.length : Int) := of_decide_eq_true (by first | (with_reducible assumption) | assumption)
                                            obtain ⟨ad172, A172_0, c172_0, e172, hx172_0, hl172_0, hi172_0⟩ := at_L1 HR2.out t168 p172 q172
                                            obtain rfl : ad170 = ad172 := (by injection e172)
                                            replace hx172_0 := (HB.out.cell (World.block_lt_of_cell? w _ hx172_0)).trans hx172_0
                                            have HR172_0 := Aside0.mk hi172_0
                                            have HC172_0 := Aside0.mk hl172_0
                                            clear hi172_0 hl172_0
                                            replace p172 := eq_true p172
                                            replace q172 := eq_true q172
                                            have ea_ := Option.some.inj (hx170_0.symm.trans hx172_0)
                                            injection ea_ with ea_ en_ ec_
                                            subst ea_
                                            subst ec_
                                            clear en_
                                            have p173 : 0 ≤ (t166 : Int) := of_decide_eq_true (by first | (with_reducible assumption) | assumption)
                                            have q173 : t166 < ((rd_L1 l2 t168).length : Int) := of_decide_eq_true (by first | (with_reducible assumption) | assumption)
                                            obtain ⟨ad173, e173, hx173_0⟩ := Kd.at_int HR172_0.out t166 p173 q173
                                            cases e173
                                            replace hx173_0 := (HB.out.cell (World.block_lt_of_cell? w _ hx173_0)).trans hx173_0
                                            replace p173 := eq_true p173
                                            replace q173 := eq_true q173
                                            go_wp2
                                            go_meet
                                            case rel => exact ⟨_, (decide ((rd (rd_L1 l2 t168) t166) ≤ 11)), (by first | rfl | (simp; done) | (simp [*]; done)), H', ⟨by have := HJ8.out; have := HJ21.out; have := HJ38.out; have := HJ45.out; first | omega | exact Nat.le_refl _⟩, ⟨by (with_reducible repeat (first | apply Kd.R_alloc | apply Kd.R_drewN | apply Kd.R_drew)); exact HO_16.out⟩, ⟨by (with_reducible repeat (first | apply Kd.R_alloc | apply Kd.R_drewN | apply Kd.R_drew)); exact HO_18.out⟩, ⟨by (with_reducible repeat (first | refine blk_drewN ?_ _ | refine blk_drew ?_ | refine blk_alloc ?_ _)); exact BK153.out⟩, ⟨by repeat (first | (with_reducible first | exact HB.out | apply below_alloc | apply pw_below_drewN | apply below_drew1 | refine below_set ?_ GE153.out) | exact HB.out)⟩⟩
                                        · rw [if_neg c56] at H
                                          have c56b0 : decide (1 ≤ (rd (rd_L1 l2 t168) t166)) = false := decide_eq_false c56
                                          clear c56
                                          as_aux_lemma =>
                                            (try rw [← hji104] at H)
                                            (try rw [← hji63] at H)
                                            (try rw [← hji80] at H)
                                            (try rw [← hji87] at H)
                                            have H' := Aside0.mk H
                                            clear H
                                            have hcz58_0 : wc.cell? ⟨gb153, 0, none⟩ = some (.int .u8 a1_0) := (blk_cell BK153.out 0).trans rfl
                                            have hcz58_1 : wc.cell? ⟨gb153, 1, none⟩ = some (.int .u8 a1_1) := (blk_cell BK153.out 1).trans rfl
                                            have hcz58_2 : wc.cell? ⟨gb153, 2, none⟩ = some (.int .i64 a1_2) := (blk_cell BK153.out 2).trans rfl
                                            have hcz58_3 : wc.cell? ⟨gb153, 3, none⟩ = some (.slice A1_3 l1_3.length c1_3) := (blk_cell BK153.out 3).trans rfl
                                            have hfz58_0 := blk_frozen BK153.out 0
                                            have hfz58_1 := blk_frozen BK153.out 1
                                            have hfz58_2 := blk_frozen BK153.out 2
                                            have hfz58_3 := blk_frozen BK153.out 3
                                            have p170 : 0 ≤ (t168 : Int) := of_decide_eq_true (by first | (with_reducible assumption) | assumption)
                                            have q170 : t168 < (l2.length : Int) := of_decide_eq_true (by first | (with_reducible assumption) | assumption)
                                            obtain ⟨ad170, A170_0, c170_0, e170, hx170_0, hl170_0, hi170_0⟩ := at_L1 HR2.out t168 p170 q170
                                            cases e170
                                            replace hx170_0 := (HB.out.cell (World.block_lt_of_cell? w _ hx170_0)).trans hx170_0
                                            have HR170_0 := Aside0.mk hi170_0
                                            have HC170_0 := Aside0.mk hl170_0
                                            clear hi170_0 hl170_0
                                            replace p170 := eq_true p170
                                            replace q170 := eq_true q170
                                            have p171 : 0 ≤ (t166 : Int) := of_decide_eq_true (by first | (with_reducible assumption) | assumption)
                                            have q171 : t166 < ((rd_L1 l2 t168).length : Int) := of_decide_eq_true (by first | (with_reducible assumption) | assumption)
                                            obtain ⟨ad171, e171, hx171_0⟩ := Kd.at_int HR170_0.out t166 p171 q171
                                            cases e171
                                            replace hx171_0 := (HB.out.cell (World.block_lt_of_cell? w _ hx171_0)).trans hx171_0
                                            replace p171 := eq_true p171
                                            replace q171 := eq_true q171
                                            go_wp2
                                            go_meet
                                            case rel => exact ⟨_, (false), (by first | rfl | (simp; done) | (simp [*]; done)), H', ⟨by have := HJ8.out; have := HJ21.out; have := HJ38.out; have := HJ45.out; first | omega | exact Nat.le_refl _⟩, ⟨by (with_reducible repeat (first | apply Kd.R_alloc | apply Kd.R_drewN | apply Kd.R_drew)); exact HO_16.out⟩, ⟨by (with_reducible repeat (first | apply Kd.R_alloc | apply Kd.R_drewN | apply Kd.R_drew)); exact HO_18.out⟩, ⟨by (with_reducible repeat (first | refine blk_drewN ?_ _ | refine blk_drew ?_ | refine blk_alloc ?_ _)); exact BK153.out⟩, ⟨by repeat (first | (with_reducible first | exact HB.out | apply below_alloc | apply pw_below_drewN | apply below_drew1 | refine below_set ?_ GE153.out) | exact HB.out)⟩⟩
                                      · rw [if_neg c55] at H
                                        exact absurd H (by simp)
                                    · rw [if_neg c54] at H
                                      exact absurd H (by simp)
                                  · rw [if_neg c53] at H
                                    exact absurd H (by simp)
                                · rw [if_neg c52] at H
                                  exact absurd H (by simp)
                              · rw [if_neg c51] at H
                                have c51b0 : decide (t166 < a1_2) = false := decide_eq_false c51
                                clear c51
                                (first | rw [c51b0] | (simp only [i64_w, i32_w]; rw [c51b0]) | skip)
                                as_aux_lemma =>
                                  (try rw [← hji104] at H)
                                  (try rw [← hji63] at H)
                                  (try rw [← hji80] at H)
                                  (try rw [← hji87] at H)
                                  have H' := Aside0.mk H
                                  clear H
                                  have hcz59_0 : wc.cell? ⟨gb153, 0, none⟩ = some (.int .u8 a1_0) := (blk_cell BK153.out 0).trans rfl
                                  have hcz59_1 : wc.cell? ⟨gb153, 1, none⟩ = some (.int .u8 a1_1) := (blk_cell BK153.out 1).trans rfl
                                  have hcz59_2 : wc.cell? ⟨gb153, 2, none⟩ = some (.int .i64 a1_2) := (blk_cell BK153.out 2).trans rfl
                                  have hcz59_3 : wc.cell? ⟨gb153, 3, none⟩ = some (.slice A1_3 l1_3.length c1_3) := (blk_cell BK153.out 3).trans rfl
                                  have hfz59_0 := blk_frozen BK153.out 0
                                  have hfz59_1 := blk_frozen BK153.out 1
                                  have hfz59_2 := blk_frozen BK153.out 2
                                  have hfz59_3 := blk_frozen BK153.out 3
                                  go_wp2
                                  go_meet
                                  case rel => exact ⟨_, (false), (by first | rfl | (simp; done) | (simp [*]; done)), H', ⟨by have := HJ8.out; have := HJ21.out; have := HJ38.out; have := HJ45.out; first | omega | exact Nat.le_refl _⟩, ⟨by (with_reducible repeat (first | apply Kd.R_alloc | apply Kd.R_drewN | apply Kd.R_drew)); exact HO_16.out⟩, ⟨by (with_reducible repeat (first | apply Kd.R_alloc | apply Kd.R_drewN | apply Kd.R_drew)); exact HO_18.out⟩, ⟨by (with_reducible repeat (first | refine blk_drewN ?_ _ | refine blk_drew ?_ | refine blk_alloc ?_ _)); exact BK153.out⟩, ⟨by repeat (first | (with_reducible first | exact HB.out | apply below_alloc | apply pw_below_drewN | apply below_drew1 | refine below_set ?_ GE153.out) | exact HB.out)⟩⟩
                            case rest =>
                              clear HC50
                              try clear c1
                              try clear p1
                              try clear q1
                              try clear hx1
                              try clear c2
                              try clear p2
                              try clear c3
                              try clear c4
                              try clear c5
                              try clear p6
                              try clear c8
                              try clear c9
                              try clear c10
                              try clear c11
                              try clear c13
                              try clear c14
                              try clear c15
                              try clear c17
                              try clear p17
                              try clear q17
                              try clear hx17
                              try clear c18
                              try clear c29
                              try clear c29b0
                              try clear c29b1
                              try clear c30
                              try clear c30b0
                              try clear c31
                              try clear c31b0
                              try clear c32
                              try clear c32b0
                              try clear c33
                              try clear c33b0
                              try clear c33b1
                              try clear c34
                              try clear c34b0
                              try clear c35
                              try clear c36
                              try clear c36b0
                              try clear c36b1
                              try clear c44
                              try clear c44b0
                              try clear c44b1
                              try clear c45
                              try clear c47
                              try clear c47b0
                              try clear c47b1
                              try clear c48
                              try clear c48b0
                              try clear c48b1
                              try clear c49
                              try clear c51
                              try clear c51b0
                              try clear c52
                              try clear c52b0
                              try clear c53
                              try clear c53b0
                              try clear c54
                              try clear c54b0
                              try clear c55
                              try clear c55b0
                              try clear c56
                              try clear c56b0
                              try clear hcz14_0
                              try clear hcz14_1
                              try clear hcz14_2
                              try clear hcz14_3
                              try clear hcz16_0
                              try clear hcz16_1
                              try clear hcz16_2
                              try clear hcz16_3
                              try clear hcz23_0
                              try clear hcz23_1
                              try clear hcz23_2
                              try clear hcz23_3
                              try clear hcz25_0
                              try clear hcz25_1
                              try clear hcz25_2
                              try clear hcz25_3
                              try clear hcz27_0
                              try clear hcz27_1
                              try clear hcz27_2
                              try clear hcz27_3
                              try clear hcz40_0
                              try clear hcz40_1
                              try clear hcz40_2
                              try clear hcz40_3
                              try clear hcz42_0
                              try clear hcz42_1
                              try clear hcz42_2
                              try clear hcz42_3
                              try clear hcz57_0
                              try clear hcz57_1
                              try clear hcz57_2
                              try clear hcz57_3
                              try clear hcz58_0
                              try clear hcz58_1
                              try clear hcz58_2
                              try clear hcz58_3
                              try clear hcz59_0
                              try clear hcz59_1
                              try clear hcz59_2
                              try clear hcz59_3
                              try clear hfz14_0
                              try clear hfz14_1
                              try clear hfz14_2
                              try clear hfz14_3
                              try clear hfz16_0
                              try clear hfz16_1
                              try clear hfz16_2
                              try clear hfz16_3
                              try clear hfz23_0
                              try clear hfz23_1
                              try clear hfz23_2
                              try clear hfz23_3
                              try clear hfz25_0
                              try clear hfz25_1
                              try clear hfz25_2
                              try clear hfz25_3
                              try clear hfz27_0
                              try clear hfz27_1
                              try clear hfz27_2
                              try clear hfz27_3
                              try clear hfz40_0
                              try clear hfz40_1
                              try clear hfz40_2
                              try clear hfz40_3
                              try clear hfz42_0
                              try clear hfz42_1
                              try clear hfz42_2
                              try clear hfz42_3
                              try clear hfz57_0
                              try clear hfz57_1
                              try clear hfz57_2
                              try clear hfz57_3
                              try clear hfz58_0
                              try clear hfz58_1
                              try clear hfz58_2
                              try clear hfz58_3
                              try clear hfz59_0
                              try clear hfz59_1
                              try clear hfz59_2
                              try clear hfz59_3
                              try clear hx170_0
                              try clear hx171_0
                              try clear hx172_0
                              try clear hx173_0
                              try clear p170
                              try clear p171
                              try clear p172
                              try clear p173
                              try clear p2
                              try clear p6
                              try clear q170
                              try clear q171
                              try clear q172
                              try clear q173
                              obtain ⟨kq, x27_49, rfl, HA, HJ49, HO_16, HO_18, BK153, HB⟩ := hcut
                              cases kq with
                              | zero => exact absurd HA.out (by simp [reedpipelaw14_QuantOwn.j4])
                              | succ kj49 =>
                                have H := HA.out
                                clear HA
                                simp only [reedpipelaw14_QuantOwn.j4] at H
                                have HC60 := Aside0.mk H
                                clear H
                                go_upto_if 156 with (fail)
                                go_cut [24] (fun v24 wc => ∃ (kq : Nat) (x24_59 : Int), v24 = .int .i64 x24_59 ∧ Aside0 (reedpipelaw14_QuantOwn.j5 kq l3 l4 t154 t160 t163 (wrap64 ((wrap64 (a5 * (wrap64 (Int.tdiv (256 : Int) t164)))) + a6)) t166 x24_59 t168 x27_49 = some r) ∧ Aside0 (kq ≤ kj49) ∧ Aside0 (Kd.R (Kd.int .i64) 3 wc w.heap.size (fun _ => True) v161 t160) ∧ Aside0 (wc.heap[gb153]? = some (.cells #[.int .u8 a1_0, .int .u8 a1_1, .int .i64 a1_2, (.slice A1_3 l1_3.length c1_3)] 24 (0, 0))) ∧ Aside0 (Below w.heap.size w wc))
                                case first =>
                                  have H := HC60.out
                                  clear HC60
                                  by_cases c61 : t159 = 0
                                  · rw [if_pos c61] at H
                                    have c61b0 : (t159 == 0) = true := beq_iff_eq.mpr c61
                                    have c61b1 : (t159 != 0) = false := bne_eq_false_iff_eq.mpr c61
                                    clear c61
                                    (first | rw [c61b0] | (simp only [i64_w, i32_w]; rw [c61b0]) | skip)
                                    by_cases c62 : x27_49 = true
                                    · subst c62
                                      have H1 : (if 0 ≤ (wrap64 ((wrap64 (a5 * (wrap64 (Int.tdiv (256 : Int) t164)))) + a6)) then (if (wrap64 ((wrap64 (a5 * (wrap64 (Int.tdiv (256 : Int) t164)))) + a6)) < (l4.length : Int) then (if 0 ≤ t168 then (if t168 < (l3.length : Int) then (if 0 ≤ t166 then (if t166 < ((rd_L1 l3 t168).length : Int) then ((power_Line.f (rd l4 (wrap64 ((wrap64 (a5 * (wrap64 (Int.tdiv (256 : Int) t164)))) + a6))) (rd (rd_L1 l3 t168) t166)).bind fun bt177 => (if (t156.length : Int) = 256 then (if bt177.2 = 0 then (if (wrap64 ((wrap64 (a5 * (wrap64 (Int.tdiv (256 : Int) t164)))) + a6)) < (t156.length : Int) then (if (rd t156 (wrap64 ((wrap64 (a5 * (wrap64 (Int.tdiv (256 : Int) t164)))) + a6))) = bt177.1 then (reedpipelaw14_QuantOwn.j5 kj49 l3 l4 t154 t160 t163 (wrap64 ((wrap64 (a5 * (wrap64 (Int.tdiv (256 : Int) t164)))) + a6)) t166 bt177.2 t168 true) else (some false)) else (none)) else (some false)) else (some false))) else (none)) else (none)) else (none)) else (none)) else (none)) else (none)) = some r := by rw [if_pos rfl] at H; exact H
                                      clear H
                                      have H := H1
                                      clear H1
                                      obtain ⟨ji63, hji63⟩ : ∃ j_ : Int, (wrap64 ((wrap64 (a5 * (wrap64 (Int.tdiv (256 : Int) t164)))) + a6)) = j_ := ⟨_, rfl⟩
                                      replace H : (if 0 ≤ (ji63) then (if (ji63) < (l4.length : Int) then (if 0 ≤ t168 then (if t168 < (l3.length : Int) then (if 0 ≤ t166 then (if t166 < ((rd_L1 l3 t168).length : Int) then ((power_Line.f (rd l4 (ji63)) (rd (rd_L1 l3 t168) t166)).bind fun bt177 => (if (t156.length : Int) = 256 then (if bt177.2 = 0 then (if (ji63) < (t156.length : Int) then (if (rd t156 (ji63)) = bt177.1 then (reedpipelaw14_QuantOwn.j5 kj49 l3 l4 t154 t160 t163 (ji63) t166 bt177.2 t168 true) else (some false)) else (none)) else (some false)) else (some false))) else (none)) else (none)) else (none)) else (none)) else (none)) else (none)) = some r := by first | (rw [hji63] at H; exact H) | (simp only [hji63] at H ⊢; exact H)
                                      have hji63w : (IntKind.i64.wrap ((wrap64 (a5 * (wrap64 (Int.tdiv (256 : Int) t164)))) + a6)) = ji63 := (i64_w _).trans hji63
                                      by_cases c64 : 0 ≤ (ji63)
                                      · rw [if_pos c64] at H
                                        have c64b0 : decide (0 ≤ (ji63)) = true := decide_eq_true c64
                                        clear c64
                                        by_cases c65 : (ji63) < (l4.length : Int)
                                        · rw [if_pos c65] at H
                                          have c65b0 : decide ((ji63) < (l4.length : Int)) = true := decide_eq_true c65
                                          clear c65
                                          by_cases c66 : 0 ≤ t168
                                          · rw [if_pos c66] at H
                                            have c66b0 : decide (0 ≤ t168) = true := decide_eq_true c66
                                            clear c66
                                            by_cases c67 : t168 < (l3.length : Int)
                                            · rw [if_pos c67] at H
                                              have c67b0 : decide (t168 < (l3.length : Int)) = true := decide_eq_true c67
                                              clear c67
                                              by_cases c68 : 0 ≤ t166
                                              · rw [if_pos c68] at H
                                                have c68b0 : decide (0 ≤ t166) = true := decide_eq_true c68
                                                clear c68
                                                by_cases c69 : t166 < ((rd_L1 l3 t168).length : Int)
                                                · rw [if_pos c69] at H
                                                  have c69b0 : decide (t166 < ((rd_L1 l3 t168).length : Int)) = true := decide_eq_true c69
                                                  clear c69
                                                  replace H := Option.bind_eq_some_iff.mp H
                                                  obtain ⟨⟨t177, t178⟩, A700, H⟩ := H
                                                  replace H : (if (t156.length : Int) = 256 then (if t178 = 0 then (if (ji63) < (t156.length : Int) then (if (rd t156 (ji63)) = t177 then (reedpipelaw14_QuantOwn.j5 kj49 l3 l4 t154 t160 t163 (ji63) t166 t178 t168 true) else (some false)) else (none)) else (some false)) else (some false)) = some r := H
                                                  have A70 := Aside0.mk A700
                                                  clear A700
                                                  by_cases c71 : (t156.length : Int) = 256
                                                  · rw [if_pos c71] at H
                                                    have c71b0 : ((t156.length : Int) == 256) = true := beq_iff_eq.mpr c71
                                                    have c71b1 : ((t156.length : Int) != 256) = false := bne_eq_false_iff_eq.mpr c71
                                                    clear c71
                                                    by_cases c72 : t178 = 0
                                                    · rw [if_pos c72] at H
                                                      have c72b0 : (t178 == 0) = true := beq_iff_eq.mpr c72
                                                      have c72b1 : (t178 != 0) = false := bne_eq_false_iff_eq.mpr c72
                                                      clear c72
                                                      by_cases c73 : (ji63) < (t156.length : Int)
                                                      · rw [if_pos c73] at H
                                                        have c73b0 : decide ((ji63) < (t156.length : Int)) = true := decide_eq_true c73
                                                        clear c73
                                                        by_cases c74 : (rd t156 (ji63)) = t177
                                                        · rw [if_pos c74] at H
                                                          have c74b0 : ((rd t156 (ji63)) == t177) = true := beq_iff_eq.mpr c74
                                                          have c74b1 : ((rd t156 (ji63)) != t177) = false := bne_eq_false_iff_eq.mpr c74
                                                          clear c74
                                                          as_aux_lemma =>
                                                            (try rw [← hji104] at H)
                                                            (try rw [← hji63] at H)
                                                            (try rw [← hji80] at H)
                                                            (try rw [← hji87] at H)
                                                            have H' := Aside0.mk H
                                                            clear H
                                                            try go_wp2
                                                            have n0_ := Aside0.mk (Kd.R_drew HO_16.out)
                                                            have n1_ := Aside0.mk (Kd.R_drew HO_18.out)
                                                            have n2_ := Aside0.mk (blk_drew BK153.out)
                                                            have n3_ := Aside0.mk (below_drew1 HB.out)
                                                            clear HO_16
                                                            clear HO_18
                                                            clear BK153
                                                            clear HB
                                                            have HO_16 := n0_
                                                            have HO_18 := n1_
                                                            have BK153 := n2_
                                                            have HB := n3_
                                                            clear n0_ n1_ n2_ n3_
                                                            have p174 : 0 ≤ ((ji63) : Int) := of_decide_eq_true (by first | (with_reducible assumption) | assumption)
                                                            have q174 : (ji63) < (l4.length : Int) := of_decide_eq_true (by first | (with_reducible assumption) | assumption)
                                                            obtain ⟨ad174, e174, hx174_0⟩ := Kd.at_int HR4.out (ji63) p174 q174
                                                            have hw174_0 := hx174_0
                                                            cases e174
                                                            replace hx174_0 := (HB.out.cell (World.block_lt_of_cell? w _ hx174_0)).trans hx174_0
                                                            replace p174 := eq_true p174
                                                            replace q174 := eq_true q174
                                                            have p175 : 0 ≤ (t168 : Int) := of_decide_eq_true (by first | (with_reducible assumption) | assumption)
                                                            have q175 : t168 < (l3.length : Int) := of_decide_eq_true (by first | (with_reducible assumption) | assumption)
                                                            obtain ⟨ad175, A175_0, c175_0, e175, hx175_0, hl175_0, hi175_0⟩ := at_L1 HR3.out t168 p175 q175
                                                            have hw175_0 := hx175_0
                                                            cases e175
                                                            replace hx175_0 := (HB.out.cell (World.block_lt_of_cell? w _ hx175_0)).trans hx175_0
                                                            have HR175_0 := Aside0.mk hi175_0
                                                            have HC175_0 := Aside0.mk hl175_0
                                                            clear hi175_0 hl175_0
                                                            replace p175 := eq_true p175
                                                            replace q175 := eq_true q175
                                                            have p176 : 0 ≤ (t166 : Int) := of_decide_eq_true (by first | (with_reducible assumption) | assumption)
                                                            have q176 : t166 < ((rd_L1 l3 t168).length : Int) := of_decide_eq_true (by first | (with_reducible assumption) | assumption)
                                                            obtain ⟨ad176, e176, hx176_0⟩ := Kd.at_int HR175_0.out t166 p176 q176
                                                            have hw176_0 := hx176_0
                                                            cases e176
                                                            replace hx176_0 := (HB.out.cell (World.block_lt_of_cell? w _ hx176_0)).trans hx176_0
                                                            replace p176 := eq_true p176
                                                            replace q176 := eq_true q176
                                                            refine start_ (n := 17) (S := fun w' => w'.cell? (ad174.add ((ji63)).toNat) = some (.int .i64 (rd l4 (ji63))) ∧ w'.cell? (ad175.add (t168).toNat) = some (.slice (some ad176) (rd_L1 l3 t168).length c175_0) ∧ w'.cell? (ad176.add (t166).toNat) = some (.int .i64 (rd (rd_L1 l3 t168) t166))) (ds := []) #[false, false, false, false, false, false, false, false, false, false, false, false, false, false, false, false, false] (by kernel_rfl) rfl rfl ⟨((HB.out.cell (World.block_lt_of_cell? w _ hw174_0)).trans hw174_0), ((HB.out.cell (World.block_lt_of_cell? w _ hw175_0)).trans hw175_0), ((HB.out.cell (World.block_lt_of_cell? w _ hw176_0)).trans hw176_0)⟩ (fun hHeld => ?_); refine with_tabW reedpipelaw14_QuantOwn.tab20 reedpipelaw14_QuantOwn.bits20 (fun HT_ HW_ => ?_)
                                                            generalize wc.drew = w75 at HO_16 HO_18 BK153 HB HR175_0 hx174_0 hx175_0 hx176_0 hHeld ⊢
                                                            refine pure_ (i := 0) (N := some 159) (v := ?_) (a' := ?_) #[true, false, false, false, false, false, false, false, false, false, false, false, false, false, false, false, false] rfl rfl (any_of HT_.out (by kernel_rfl)) (fun _ _ _ h => h) (Or.inl ⟨by rfl, ?_⟩) ?_ ?_
                                                            rotate_left
                                                            · intro w'
                                                              go_simp
                                                              with_reducible rfl
                                                            rotate_left
                                                            · simp only [Act.put, List.setIfInBounds_toArray, List.set_cons_zero, List.set_cons_succ, i64_w, i32_w]
                                                              rfl
                                                            refine pure_ (i := 1) (N := some 160) (v := ?_) (a' := ?_) #[true, true, false, false, false, false, false, false, false, false, false, false, false, false, false, false, false] rfl rfl (any_of HT_.out (by kernel_rfl)) (fun _ _ _ h => h) (Or.inl ⟨by rfl, ?_⟩) ?_ ?_
                                                            rotate_left
                                                            · intro w'
                                                              go_simp
                                                              with_reducible rfl
                                                            rotate_left
                                                            · simp only [Act.put, List.setIfInBounds_toArray, List.set_cons_zero, List.set_cons_succ, i64_w, i32_w]
                                                              rfl
                                                            refine pure_ (i := 2) (N := some 161) (v := ?_) (a' := ?_) #[true, true, true, false, false, false, false, false, false, false, false, false, false, false, false, false, false] rfl rfl (any_of HT_.out (by kernel_rfl)) (fun _ _ _ h => h) (Or.inl ⟨by rfl, ?_⟩) ?_ ?_
                                                            rotate_left
                                                            · intro w'
                                                              go_simp
                                                              with_reducible rfl
                                                            rotate_left
                                                            · simp only [Act.put, List.setIfInBounds_toArray, List.set_cons_zero, List.set_cons_succ, i64_w, i32_w]
                                                              rfl
                                                            refine pure_ (i := 4) (N := some 163) (v := ?_) (a' := ?_) #[true, true, true, false, true, false, false, false, false, false, false, false, false, false, false, false, false] rfl rfl (any_of HT_.out (by kernel_rfl)) (fun _ _ _ h => h) (Or.inl ⟨by rfl, ?_⟩) ?_ ?_
                                                            rotate_left
                                                            · intro w'
                                                              go_simp
                                                              with_reducible rfl
                                                            rotate_left
                                                            · simp only [Act.put, List.setIfInBounds_toArray, List.set_cons_zero, List.set_cons_succ, i64_w, i32_w]
                                                              rfl
                                                            refine pure_ (i := 5) (N := some 164) (v := ?_) (a' := ?_) #[true, true, true, false, true, true, false, false, false, false, false, false, false, false, false, false, false] rfl rfl (any_of HT_.out (by kernel_rfl)) (fun _ _ _ h => h) (Or.inl ⟨by rfl, ?_⟩) ?_ ?_
                                                            rotate_left
                                                            · intro w'
                                                              go_simp
                                                              with_reducible rfl
                                                            rotate_left
                                                            · simp only [Act.put, List.setIfInBounds_toArray, List.set_cons_zero, List.set_cons_succ, i64_w, i32_w]
                                                              rfl
                                                            refine pure_ (i := 6) (N := some 165) (v := ?_) (a' := ?_) #[true, true, true, false, true, true, true, false, false, false, false, false, false, false, false, false, false] rfl rfl (any_of HT_.out (by kernel_rfl)) (fun _ _ _ h => h) (Or.inl ⟨by rfl, ?_⟩) ?_ ?_
                                                            rotate_left
                                                            · intro w'
                                                              go_simp
                                                              with_reducible rfl
                                                            rotate_left
                                                            · simp only [Act.put, List.setIfInBounds_toArray, List.set_cons_zero, List.set_cons_succ, i64_w, i32_w]
                                                              rfl
                                                            refine pure_ (i := 8) (N := some 167) (v := ?_) (a' := ?_) #[true, true, true, false, true, true, true, false, true, false, false, false, false, false, false, false, false] rfl rfl (any_of HT_.out (by kernel_rfl)) (fun _ _ _ h => h) (Or.inl ⟨by rfl, ?_⟩) ?_ ?_
                                                            rotate_left
                                                            · intro w'
                                                              go_simp
                                                              with_reducible rfl
                                                            rotate_left
                                                            · simp only [Act.put, List.setIfInBounds_toArray, List.set_cons_zero, List.set_cons_succ, i64_w, i32_w]
                                                              rfl
                                                            refine take_ (i := 3) (N := some 162) (v := ?_) (a' := ?_) #[true, true, true, true, true, true, true, false, true, false, false, false, false, false, false, false, false] rfl rfl (take_ofW HT_.out HW_.out (by kernel_rfl)) (fun _ _ _ h => h) (Or.inl ⟨by rfl, ?_⟩) hHeld ?_ ?_
                                                            rotate_left
                                                            · rintro w' ⟨s0, s1, s2⟩
                                                              go_simp
                                                              with_reducible rfl
                                                            rotate_left
                                                            · simp only [Act.put, List.setIfInBounds_toArray, List.set_cons_zero, List.set_cons_succ, i64_w, i32_w]
                                                              rfl
                                                            refine take_ (i := 7) (N := some 166) (v := ?_) (a' := ?_) #[true, true, true, true, true, true, true, true, true, false, false, false, false, false, false, false, false] rfl rfl (take_ofW HT_.out HW_.out (by kernel_rfl)) (fun _ _ _ h => h) (Or.inl ⟨by rfl, ?_⟩) hHeld ?_ ?_
                                                            rotate_left
                                                            · rintro w' ⟨s0, s1, s2⟩
                                                              go_simp
                                                              with_reducible rfl
                                                            rotate_left
                                                            · simp only [Act.put, List.setIfInBounds_toArray, List.set_cons_zero, List.set_cons_succ, i64_w, i32_w]
                                                              rfl
                                                            refine pure_ (i := 9) (N := some 168) (v := ?_) (a' := ?_) #[true, true, true, true, true, true, true, true, true, true, false, false, false, false, false, false, false] rfl rfl (any_of HT_.out (by kernel_rfl)) (fun _ _ _ h => h) (Or.inl ⟨by rfl, ?_⟩) ?_ ?_
                                                            rotate_left
                                                            · intro w'
                                                              go_simp
                                                              with_reducible rfl
                                                            rotate_left
                                                            · simp only [Act.put, List.setIfInBounds_toArray, List.set_cons_zero, List.set_cons_succ, i64_w, i32_w]
                                                              rfl
                                                            refine take_ (i := 10) (N := some 169) (v := ?_) (a' := ?_) #[true, true, true, true, true, true, true, true, true, true, true, false, false, false, false, false, false] rfl rfl (take_ofW HT_.out HW_.out (by kernel_rfl)) (fun _ _ _ h => h) (Or.inl ⟨by rfl, ?_⟩) hHeld ?_ ?_
                                                            rotate_left
                                                            · rintro w' ⟨s0, s1, s2⟩
                                                              go_simp
                                                              with_reducible rfl
                                                            rotate_left
                                                            · simp only [Act.put, List.setIfInBounds_toArray, List.set_cons_zero, List.set_cons_succ, i64_w, i32_w]
                                                              rfl
                                                            refine one_ (i := 11) (N := some 170) #[true, true, true, true, true, true, true, true, true, true, true, true, false, false, false, false, false] rfl rfl (one_of HT_.out (by kernel_rfl)) (by decide) (fun K hK => ?_)
                                                            refine goes_ Try.func16 (by kernel_rfl) rfl #[.int .i64 (rd l4 (ji63)), .int .i64 (rd (rd_L1 l3 t168) t166)] (by rfl) rfl rfl (by (try simp only [List.map_toArray, List.map_cons, List.map_nil]); first | done | (simp only [hji63]; rfl) | rfl | (simp only [List.length_drop, List.length_take]; rfl)) ?_
                                                            with_reducible refine (power_Line.calls (rd l4 (ji63)) (rd (rd_L1 l3 t168) t166) t177 t178 _ A70.out).mono ?_
                                                            rintro e w76 ⟨rfl, hb⟩
                                                            refine ⟨_, rfl, ?_⟩
                                                            have n0_ := Aside0.mk (Kd.R_below (by (with_reducible repeat (first | apply Kd.R_alloc | apply Kd.R_drewN | apply Kd.R_drew)); exact HO_16.out) hb)
                                                            have n1_ := Aside0.mk (Kd.R_below (by (with_reducible repeat (first | apply Kd.R_alloc | apply Kd.R_drewN | apply Kd.R_drew)); exact HO_18.out) hb)
                                                            have n2_ := Aside0.mk (blk_below (g := gb153) (o := .cells #[.int .u8 a1_0, .int .u8 a1_1, .int .i64 a1_2, .slice A1_3 l1_3.length c1_3] 24 (0, 0)) (by (with_reducible repeat (first | refine blk_drewN ?_ _ | refine blk_drew ?_ | refine blk_alloc ?_ _)); exact BK153.out) hb)
                                                            have n3_ := Aside0.mk (below_step (by repeat (first | (with_reducible first | exact HB.out | apply below_alloc | apply pw_below_drewN | apply below_drew1 | refine below_set ?_ GE153.out) | exact HB.out)) hb)
                                                            clear HO_16
                                                            clear HO_18
                                                            clear BK153
                                                            clear HB
                                                            have HO_16 := n0_
                                                            have HO_18 := n1_
                                                            have BK153 := n2_
                                                            have HB := n3_
                                                            clear n0_ n1_ n2_ n3_
                                                            (try clear hb)
                                                            (try clear hb2)
                                                            (try clear hk)
                                                            (try clear hi)
                                                            refine hK.out _ _ ⟨((HB.out.cell (World.block_lt_of_cell? w _ hw174_0)).trans hw174_0), ((HB.out.cell (World.block_lt_of_cell? w _ hw175_0)).trans hw175_0), ((HB.out.cell (World.block_lt_of_cell? w _ hw176_0)).trans hw176_0)⟩ (fun hHeld => ?_)
                                                            clear hK K
                                                            refine norm_ (a' := ?_) ?_ ?_
                                                            rotate_left
                                                            · show Act.put _ (some 170) _ = _
                                                              simp only [Act.put, List.setIfInBounds_toArray, List.set_cons_zero, List.set_cons_succ, i64_w, i32_w]
                                                              rfl
                                                            refine pure_ (i := 12) (N := some 158) (v := ?_) (a' := ?_) #[true, true, true, true, true, true, true, true, true, true, true, true, true, false, false, false, false] rfl rfl (any_of HT_.out (by kernel_rfl)) (fun _ _ _ h => h) (Or.inl ⟨by rfl, ?_⟩) ?_ ?_
                                                            rotate_left
                                                            · intro w'
                                                              go_simp
                                                              with_reducible rfl
                                                            rotate_left
                                                            · simp only [Act.put, List.setIfInBounds_toArray, List.set_cons_zero, List.set_cons_succ, i64_w, i32_w]
                                                              rfl
                                                            refine pure_ (i := 13) (N := some 171) (v := ?_) (a' := ?_) #[true, true, true, true, true, true, true, true, true, true, true, true, true, true, false, false, false] rfl rfl (any_of HT_.out (by kernel_rfl)) (fun _ _ _ h => h) (Or.inl ⟨by rfl, ?_⟩) ?_ ?_
                                                            rotate_left
                                                            · intro w'
                                                              go_simp
                                                              with_reducible rfl
                                                            rotate_left
                                                            · simp only [Act.put, List.setIfInBounds_toArray, List.set_cons_zero, List.set_cons_succ, i64_w, i32_w]
                                                              rfl
                                                            refine pure_ (i := 14) (N := some 172) (v := ?_) (a' := ?_) #[true, true, true, true, true, true, true, true, true, true, true, true, true, true, true, false, false] rfl rfl (any_of HT_.out (by kernel_rfl)) (fun _ _ _ h => h) (Or.inl ⟨by rfl, ?_⟩) ?_ ?_
                                                            rotate_left
                                                            · intro w'
                                                              go_simp
                                                              with_reducible rfl
                                                            rotate_left
                                                            · simp only [Act.put, List.setIfInBounds_toArray, List.set_cons_zero, List.set_cons_succ, i64_w, i32_w]
                                                              rfl
                                                            refine pure_ (i := 15) (N := some 28) (v := ?_) (a' := ?_) #[true, true, true, true, true, true, true, true, true, true, true, true, true, true, true, true, false] rfl rfl (any_of HT_.out (by kernel_rfl)) (fun _ _ _ h => h) (Or.inl ⟨by rfl, ?_⟩) ?_ ?_
                                                            rotate_left
                                                            · intro w'
                                                              go_simp
                                                              with_reducible rfl
                                                            rotate_left
                                                            · simp only [Act.put, List.setIfInBounds_toArray, List.set_cons_zero, List.set_cons_succ, i64_w, i32_w]
                                                              rfl
                                                            refine pure_ (i := 16) (N := some 24) (v := ?_) (a' := ?_) #[true, true, true, true, true, true, true, true, true, true, true, true, true, true, true, true, true] rfl rfl (any_of HT_.out (by kernel_rfl)) (fun _ _ _ h => h) (Or.inl ⟨by rfl, ?_⟩) ?_ ?_
                                                            rotate_left
                                                            · intro w'
                                                              go_simp
                                                              with_reducible rfl
                                                            rotate_left
                                                            · simp only [Act.put, List.setIfInBounds_toArray, List.set_cons_zero, List.set_cons_succ, i64_w, i32_w]
                                                              rfl
                                                            refine done_ (done_of HT_.out (by kernel_rfl)) ?_
                                                            obtain ⟨Ao77, co77, eo77⟩ := Kd.R_slice HO_16.out
                                                            subst eo77
                                                            have p179 : 0 ≤ ((ji63) : Int) := of_decide_eq_true (by first | (with_reducible assumption) | assumption)
                                                            have q179 : (ji63) < (t156.length : Int) := of_decide_eq_true (by first | (with_reducible assumption) | assumption)
                                                            obtain ⟨ad179, e179, hx179_0⟩ := Kd.at_int (Kd.R_reads' HO_16.out).2.2 (ji63) p179 q179
                                                            cases e179
                                                            replace p179 := eq_true p179
                                                            replace q179 := eq_true q179
                                                            try go_wp2
                                                            go_meet
                                                            case rel => exact ⟨_, (t178), (by first | rfl | (simp; done) | (simp [*]; done)), H', ⟨by have := HJ8.out; have := HJ21.out; have := HJ38.out; have := HJ45.out; have := HJ49.out; first | omega | exact Nat.le_refl _⟩, ⟨by (with_reducible repeat (first | apply Kd.R_alloc | apply Kd.R_drewN | apply Kd.R_drew)); exact Kd.R_mono HO_18.out (fun _ hk => trivial)⟩, ⟨by (with_reducible repeat (first | refine blk_drewN ?_ _ | refine blk_drew ?_ | refine blk_alloc ?_ _)); exact BK153.out⟩, ⟨by repeat (first | (with_reducible first | exact HB.out | apply below_alloc | apply pw_below_drewN | apply below_drew1 | refine below_set ?_ GE153.out) | exact HB.out)⟩⟩
                                                        · rw [if_neg c74] at H
                                                          have c74b0 : ((rd t156 (ji63)) == t177) = false := beq_eq_false_iff_ne.mpr c74
                                                          have c74b1 : ((rd t156 (ji63)) != t177) = true := bne_iff_ne.mpr c74
                                                          exact absurd ((Option.some.inj H).trans HRT.out) (by decide)
                                                      · rw [if_neg c73] at H
                                                        exact absurd H (by simp)
                                                    · rw [if_neg c72] at H
                                                      have c72b0 : (t178 == 0) = false := beq_eq_false_iff_ne.mpr c72
                                                      have c72b1 : (t178 != 0) = true := bne_iff_ne.mpr c72
                                                      exact absurd ((Option.some.inj H).trans HRT.out) (by decide)
                                                  · rw [if_neg c71] at H
                                                    have c71b0 : ((t156.length : Int) == 256) = false := beq_eq_false_iff_ne.mpr c71
                                                    have c71b1 : ((t156.length : Int) != 256) = true := bne_iff_ne.mpr c71
                                                    exact absurd ((Option.some.inj H).trans HRT.out) (by decide)
                                                · rw [if_neg c69] at H
                                                  exact absurd H (by simp)
                                              · rw [if_neg c68] at H
                                                exact absurd H (by simp)
                                            · rw [if_neg c67] at H
                                              exact absurd H (by simp)
                                          · rw [if_neg c66] at H
                                            exact absurd H (by simp)
                                        · rw [if_neg c65] at H
                                          exact absurd H (by simp)
                                      · rw [if_neg c64] at H
                                        exact absurd H (by simp)
                                    · replace c62 := Bool.eq_false_iff.mpr c62
                                      subst c62
                                      have H1 : (if (t156.length : Int) = 256 then (if t167 = 0 then (if 0 ≤ (wrap64 ((wrap64 (a5 * (wrap64 (Int.tdiv (256 : Int) t164)))) + a6)) then (if (wrap64 ((wrap64 (a5 * (wrap64 (Int.tdiv (256 : Int) t164)))) + a6)) < (t156.length : Int) then (if (rd t156 (wrap64 ((wrap64 (a5 * (wrap64 (Int.tdiv (256 : Int) t164)))) + a6))) = 0 then (reedpipelaw14_QuantOwn.j5 kj49 l3 l4 t154 t160 t163 (wrap64 ((wrap64 (a5 * (wrap64 (Int.tdiv (256 : Int) t164)))) + a6)) t166 t167 t168 false) else (some false)) else (none)) else (none)) else (some false)) else (some false)) = some r := by rw [if_neg (show ¬ (false = true) by decide)] at H; exact H
                                      clear H
                                      have H := H1
                                      clear H1
                                      by_cases c78 : (t156.length : Int) = 256
                                      · rw [if_pos c78] at H
                                        have c78b0 : ((t156.length : Int) == 256) = true := beq_iff_eq.mpr c78
                                        have c78b1 : ((t156.length : Int) != 256) = false := bne_eq_false_iff_eq.mpr c78
                                        clear c78
                                        by_cases c79 : t167 = 0
                                        · rw [if_pos c79] at H
                                          have c79b0 : (t167 == 0) = true := beq_iff_eq.mpr c79
                                          have c79b1 : (t167 != 0) = false := bne_eq_false_iff_eq.mpr c79
                                          clear c79
                                          obtain ⟨ji80, hji80⟩ : ∃ j_ : Int, (wrap64 ((wrap64 (a5 * (wrap64 (Int.tdiv (256 : Int) t164)))) + a6)) = j_ := ⟨_, rfl⟩
                                          replace H : (if 0 ≤ (ji80) then (if (ji80) < (t156.length : Int) then (if (rd t156 (ji80)) = 0 then (reedpipelaw14_QuantOwn.j5 kj49 l3 l4 t154 t160 t163 (ji80) t166 t167 t168 false) else (some false)) else (none)) else (none)) = some r := by first | (rw [hji80] at H; exact H) | (simp only [hji80] at H ⊢; exact H)
                                          have hji80w : (IntKind.i64.wrap ((wrap64 (a5 * (wrap64 (Int.tdiv (256 : Int) t164)))) + a6)) = ji80 := (i64_w _).trans hji80
                                          by_cases c81 : 0 ≤ (ji80)
                                          · rw [if_pos c81] at H
                                            have c81b0 : decide (0 ≤ (ji80)) = true := decide_eq_true c81
                                            clear c81
                                            by_cases c82 : (ji80) < (t156.length : Int)
                                            · rw [if_pos c82] at H
                                              have c82b0 : decide ((ji80) < (t156.length : Int)) = true := decide_eq_true c82
                                              clear c82
                                              by_cases c83 : (rd t156 (ji80)) = 0
                                              · rw [if_pos c83] at H
                                                have c83b0 : ((rd t156 (ji80)) == 0) = true := beq_iff_eq.mpr c83
                                                have c83b1 : ((rd t156 (ji80)) != 0) = false := bne_eq_false_iff_eq.mpr c83
                                                clear c83
                                                as_aux_lemma =>
                                                  (try rw [← hji104] at H)
                                                  (try rw [← hji63] at H)
                                                  (try rw [← hji80] at H)
                                                  (try rw [← hji87] at H)
                                                  have H' := Aside0.mk H
                                                  clear H
                                                  obtain ⟨Ao84, co84, eo84⟩ := Kd.R_slice HO_16.out
                                                  subst eo84
                                                  have p180 : 0 ≤ ((ji80) : Int) := of_decide_eq_true (by first | (with_reducible assumption) | assumption)
                                                  have q180 : (ji80) < (t156.length : Int) := of_decide_eq_true (by first | (with_reducible assumption) | assumption)
                                                  obtain ⟨ad180, e180, hx180_0⟩ := Kd.at_int (Kd.R_reads' HO_16.out).2.2 (ji80) p180 q180
                                                  cases e180
                                                  replace p180 := eq_true p180
                                                  replace q180 := eq_true q180
                                                  go_wp2
                                                  go_meet
                                                  case rel => exact ⟨_, (t167), (by first | rfl | (simp; done) | (simp [*]; done)), H', ⟨by have := HJ8.out; have := HJ21.out; have := HJ38.out; have := HJ45.out; have := HJ49.out; first | omega | exact Nat.le_refl _⟩, ⟨by (with_reducible repeat (first | apply Kd.R_alloc | apply Kd.R_drewN | apply Kd.R_drew)); exact Kd.R_mono HO_18.out (fun _ hk => trivial)⟩, ⟨by (with_reducible repeat (first | refine blk_drewN ?_ _ | refine blk_drew ?_ | refine blk_alloc ?_ _)); exact BK153.out⟩, ⟨by repeat (first | (with_reducible first | exact HB.out | apply below_alloc | apply pw_below_drewN | apply below_drew1 | refine below_set ?_ GE153.out) | exact HB.out)⟩⟩
                                              · rw [if_neg c83] at H
                                                have c83b0 : ((rd t156 (ji80)) == 0) = false := beq_eq_false_iff_ne.mpr c83
                                                have c83b1 : ((rd t156 (ji80)) != 0) = true := bne_iff_ne.mpr c83
                                                exact absurd ((Option.some.inj H).trans HRT.out) (by decide)
                                            · rw [if_neg c82] at H
                                              exact absurd H (by simp)
                                          · rw [if_neg c81] at H
                                            exact absurd H (by simp)
                                        · rw [if_neg c79] at H
                                          have c79b0 : (t167 == 0) = false := beq_eq_false_iff_ne.mpr c79
                                          have c79b1 : (t167 != 0) = true := bne_iff_ne.mpr c79
                                          exact absurd ((Option.some.inj H).trans HRT.out) (by decide)
                                      · rw [if_neg c78] at H
                                        have c78b0 : ((t156.length : Int) == 256) = false := beq_eq_false_iff_ne.mpr c78
                                        have c78b1 : ((t156.length : Int) != 256) = true := bne_iff_ne.mpr c78
                                        exact absurd ((Option.some.inj H).trans HRT.out) (by decide)
                                  · rw [if_neg c61] at H
                                    have c61b0 : (t159 == 0) = false := beq_eq_false_iff_ne.mpr c61
                                    have c61b1 : (t159 != 0) = true := bne_iff_ne.mpr c61
                                    (first | rw [c61b0] | (simp only [i64_w, i32_w]; rw [c61b0]) | skip)
                                    as_aux_lemma =>
                                      (try rw [← hji104] at H)
                                      (try rw [← hji63] at H)
                                      (try rw [← hji80] at H)
                                      (try rw [← hji87] at H)
                                      have H' := Aside0.mk H
                                      clear H
                                      go_wp2
                                      go_meet
                                      case rel => exact ⟨_, (t167), (by first | rfl | (simp; done) | (simp [*]; done)), H', ⟨by have := HJ8.out; have := HJ21.out; have := HJ38.out; have := HJ45.out; have := HJ49.out; first | omega | exact Nat.le_refl _⟩, ⟨by (with_reducible repeat (first | apply Kd.R_alloc | apply Kd.R_drewN | apply Kd.R_drew)); exact Kd.R_mono HO_18.out (fun _ hk => trivial)⟩, ⟨by (with_reducible repeat (first | refine blk_drewN ?_ _ | refine blk_drew ?_ | refine blk_alloc ?_ _)); exact BK153.out⟩, ⟨by repeat (first | (with_reducible first | exact HB.out | apply below_alloc | apply pw_below_drewN | apply below_drew1 | refine below_set ?_ GE153.out) | exact HB.out)⟩⟩
                                case rest =>
                                  clear HC60
                                  try clear c1
                                  try clear p1
                                  try clear q1
                                  try clear hx1
                                  try clear c2
                                  try clear p2
                                  try clear c3
                                  try clear c4
                                  try clear c5
                                  try clear c6
                                  try clear p6
                                  try clear c7
                                  try clear c8
                                  try clear c9
                                  try clear c10
                                  try clear c11
                                  try clear c13
                                  try clear c14
                                  try clear c15
                                  try clear c16
                                  try clear c17
                                  try clear p17
                                  try clear q17
                                  try clear hx17
                                  try clear c18
                                  try clear p18
                                  try clear q18
                                  try clear hx18
                                  try clear c29
                                  try clear c29b0
                                  try clear c29b1
                                  try clear c30
                                  try clear c30b0
                                  try clear c31
                                  try clear c31b0
                                  try clear c32
                                  try clear c32b0
                                  try clear c33
                                  try clear c33b0
                                  try clear c33b1
                                  try clear c34
                                  try clear c34b0
                                  try clear c35
                                  try clear c36
                                  try clear c36b0
                                  try clear c36b1
                                  try clear c44
                                  try clear c44b0
                                  try clear c44b1
                                  try clear c45
                                  try clear c47
                                  try clear c47b0
                                  try clear c47b1
                                  try clear c48
                                  try clear c48b0
                                  try clear c48b1
                                  try clear c49
                                  try clear c51
                                  try clear c51b0
                                  try clear c52
                                  try clear c52b0
                                  try clear c53
                                  try clear c53b0
                                  try clear c54
                                  try clear c54b0
                                  try clear c55
                                  try clear c55b0
                                  try clear c56
                                  try clear c56b0
                                  try clear c61
                                  try clear c61b0
                                  try clear c61b1
                                  try clear c62
                                  try clear c64
                                  try clear c64b0
                                  try clear p64
                                  try clear c65
                                  try clear c65b0
                                  try clear c66
                                  try clear c66b0
                                  try clear c67
                                  try clear c67b0
                                  try clear c68
                                  try clear c68b0
                                  try clear c69
                                  try clear c69b0
                                  try clear c71
                                  try clear c71b0
                                  try clear c71b1
                                  try clear c72
                                  try clear c72b0
                                  try clear c72b1
                                  try clear c73
                                  try clear c73b0
                                  try clear c74
                                  try clear c74b0
                                  try clear c74b1
                                  try clear c78
                                  try clear c78b0
                                  try clear c78b1
                                  try clear c79
                                  try clear c79b0
                                  try clear c79b1
                                  try clear c81
                                  try clear c81b0
                                  try clear c82
                                  try clear c82b0
                                  try clear c83
                                  try clear c83b0
                                  try clear c83b1
                                  try clear hcz14_0
                                  try clear hcz14_1
                                  try clear hcz14_2
                                  try clear hcz14_3
                                  try clear hcz16_0
                                  try clear hcz16_1
                                  try clear hcz16_2
                                  try clear hcz16_3
                                  try clear hcz23_0
                                  try clear hcz23_1
                                  try clear hcz23_2
                                  try clear hcz23_3
                                  try clear hcz25_0
                                  try clear hcz25_1
                                  try clear hcz25_2
                                  try clear hcz25_3
                                  try clear hcz27_0
                                  try clear hcz27_1
                                  try clear hcz27_2
                                  try clear hcz27_3
                                  try clear hcz40_0
                                  try clear hcz40_1
                                  try clear hcz40_2
                                  try clear hcz40_3
                                  try clear hcz42_0
                                  try clear hcz42_1
                                  try clear hcz42_2
                                  try clear hcz42_3
                                  try clear hcz57_0
                                  try clear hcz57_1
                                  try clear hcz57_2
                                  try clear hcz57_3
                                  try clear hcz58_0
                                  try clear hcz58_1
                                  try clear hcz58_2
                                  try clear hcz58_3
                                  try clear hcz59_0
                                  try clear hcz59_1
                                  try clear hcz59_2
                                  try clear hcz59_3
                                  try clear hfz14_0
                                  try clear hfz14_1
                                  try clear hfz14_2
                                  try clear hfz14_3
                                  try clear hfz16_0
                                  try clear hfz16_1
                                  try clear hfz16_2
                                  try clear hfz16_3
                                  try clear hfz23_0
                                  try clear hfz23_1
                                  try clear hfz23_2
                                  try clear hfz23_3
                                  try clear hfz25_0
                                  try clear hfz25_1
                                  try clear hfz25_2
                                  try clear hfz25_3
                                  try clear hfz27_0
                                  try clear hfz27_1
                                  try clear hfz27_2
                                  try clear hfz27_3
                                  try clear hfz40_0
                                  try clear hfz40_1
                                  try clear hfz40_2
                                  try clear hfz40_3
                                  try clear hfz42_0
                                  try clear hfz42_1
                                  try clear hfz42_2
                                  try clear hfz42_3
                                  try clear hfz57_0
                                  try clear hfz57_1
                                  try clear hfz57_2
                                  try clear hfz57_3
                                  try clear hfz58_0
                                  try clear hfz58_1
                                  try clear hfz58_2
                                  try clear hfz58_3
                                  try clear hfz59_0
                                  try clear hfz59_1
                                  try clear hfz59_2
                                  try clear hfz59_3
                                  try clear hx170_0
                                  try clear hx171_0
                                  try clear hx172_0
                                  try clear hx173_0
                                  try clear hx174_0
                                  try clear hx175_0
                                  try clear hx176_0
                                  try clear hx179_0
                                  try clear hx180_0
                                  try clear p1
                                  try clear p17
                                  try clear p170
                                  try clear p171
                                  try clear p172
                                  try clear p173
                                  try clear p174
                                  try clear p175
                                  try clear p176
                                  try clear p179
                                  try clear p180
                                  try clear p2
                                  try clear p6
                                  try clear q1
                                  try clear q17
                                  try clear q170
                                  try clear q171
                                  try clear q172
                                  try clear q173
                                  try clear q174
                                  try clear q175
                                  try clear q176
                                  try clear q179
                                  try clear q180
                                  obtain ⟨kq, x24_59, rfl, HA, HJ59, HO_18, BK153, HB⟩ := hcut
                                  cases kq with
                                  | zero => exact absurd HA.out (by simp [reedpipelaw14_QuantOwn.j5])
                                  | succ kj59 =>
                                    have H := HA.out
                                    clear HA
                                    simp only [reedpipelaw14_QuantOwn.j5] at H
                                    by_cases c85 : t163 = 0
                                    · rw [if_pos c85] at H
                                      have c85b0 : (t163 == 0) = true := beq_iff_eq.mpr c85
                                      have c85b1 : (t163 != 0) = false := bne_eq_false_iff_eq.mpr c85
                                      clear c85
                                      by_cases c86 : x27_49 = true
                                      · subst c86
                                        have H1 : (if 0 ≤ (wrap64 ((wrap64 (a5 * (wrap64 (Int.tdiv (256 : Int) t164)))) + a6)) then (if (wrap64 ((wrap64 (a5 * (wrap64 (Int.tdiv (256 : Int) t164)))) + a6)) < (l4.length : Int) then (if 0 ≤ t168 then (if t168 < (l3.length : Int) then (if 0 ≤ t166 then (if t166 < ((rd_L1 l3 t168).length : Int) then ((power_Quant.f (rd l4 (wrap64 ((wrap64 (a5 * (wrap64 (Int.tdiv (256 : Int) t164)))) + a6))) (rd (rd_L1 l3 t168) t166)).bind fun bt184 => (if (t160.length : Int) = 256 then (if bt184.2 = 0 then (if (wrap64 ((wrap64 (a5 * (wrap64 (Int.tdiv (256 : Int) t164)))) + a6)) < (t160.length : Int) then (if (rd t160 (wrap64 ((wrap64 (a5 * (wrap64 (Int.tdiv (256 : Int) t164)))) + a6))) = bt184.1 then (some t154) else (some false)) else (none)) else (some false)) else (some false))) else (none)) else (none)) else (none)) else (none)) else (none)) else (none)) = some r := by rw [if_pos rfl] at H; exact H
                                        clear H
                                        have H := H1
                                        clear H1
                                        obtain ⟨ji87, hji87⟩ : ∃ j_ : Int, (wrap64 ((wrap64 (a5 * (wrap64 (Int.tdiv (256 : Int) t164)))) + a6)) = j_ := ⟨_, rfl⟩
                                        replace H : (if 0 ≤ (ji87) then (if (ji87) < (l4.length : Int) then (if 0 ≤ t168 then (if t168 < (l3.length : Int) then (if 0 ≤ t166 then (if t166 < ((rd_L1 l3 t168).length : Int) then ((power_Quant.f (rd l4 (ji87)) (rd (rd_L1 l3 t168) t166)).bind fun bt184 => (if (t160.length : Int) = 256 then (if bt184.2 = 0 then (if (ji87) < (t160.length : Int) then (if (rd t160 (ji87)) = bt184.1 then (some t154) else (some false)) else (none)) else (some false)) else (some false))) else (none)) else (none)) else (none)) else (none)) else (none)) else (none)) = some r := by first | (rw [hji87] at H; exact H) | (simp only [hji87] at H ⊢; exact H)
                                        have hji87w : (IntKind.i64.wrap ((wrap64 (a5 * (wrap64 (Int.tdiv (256 : Int) t164)))) + a6)) = ji87 := (i64_w _).trans hji87
                                        by_cases c88 : 0 ≤ (ji87)
                                        · rw [if_pos c88] at H
                                          have c88b0 : decide (0 ≤ (ji87)) = true := decide_eq_true c88
                                          clear c88
                                          by_cases c89 : (ji87) < (l4.length : Int)
                                          · rw [if_pos c89] at H
                                            have c89b0 : decide ((ji87) < (l4.length : Int)) = true := decide_eq_true c89
                                            clear c89
                                            by_cases c90 : 0 ≤ t168
                                            · rw [if_pos c90] at H
                                              have c90b0 : decide (0 ≤ t168) = true := decide_eq_true c90
                                              clear c90
                                              by_cases c91 : t168 < (l3.length : Int)
                                              · rw [if_pos c91] at H
                                                have c91b0 : decide (t168 < (l3.length : Int)) = true := decide_eq_true c91
                                                clear c91
                                                by_cases c92 : 0 ≤ t166
                                                · rw [if_pos c92] at H
                                                  have c92b0 : decide (0 ≤ t166) = true := decide_eq_true c92
                                                  clear c92
                                                  by_cases c93 : t166 < ((rd_L1 l3 t168).length : Int)
                                                  · rw [if_pos c93] at H
                                                    have c93b0 : decide (t166 < ((rd_L1 l3 t168).length : Int)) = true := decide_eq_true c93
                                                    clear c93
                                                    replace H := Option.bind_eq_some_iff.mp H
                                                    obtain ⟨⟨t184, t185⟩, A940, H⟩ := H
                                                    replace H : (if (t160.length : Int) = 256 then (if t185 = 0 then (if (ji87) < (t160.length : Int) then (if (rd t160 (ji87)) = t184 then (some t154) else (some false)) else (none)) else (some false)) else (some false)) = some r := H
                                                    have A94 := Aside0.mk A940
                                                    clear A940
                                                    by_cases c95 : (t160.length : Int) = 256
                                                    · rw [if_pos c95] at H
                                                      have c95b0 : ((t160.length : Int) == 256) = true := beq_iff_eq.mpr c95
                                                      have c95b1 : ((t160.length : Int) != 256) = false := bne_eq_false_iff_eq.mpr c95
                                                      clear c95
                                                      by_cases c96 : t185 = 0
                                                      · rw [if_pos c96] at H
                                                        have c96b0 : (t185 == 0) = true := beq_iff_eq.mpr c96
                                                        have c96b1 : (t185 != 0) = false := bne_eq_false_iff_eq.mpr c96
                                                        clear c96
                                                        by_cases c97 : (ji87) < (t160.length : Int)
                                                        · rw [if_pos c97] at H
                                                          have c97b0 : decide ((ji87) < (t160.length : Int)) = true := decide_eq_true c97
                                                          clear c97
                                                          by_cases c98 : (rd t160 (ji87)) = t184
                                                          · rw [if_pos c98] at H
                                                            have c98b0 : ((rd t160 (ji87)) == t184) = true := beq_iff_eq.mpr c98
                                                            have c98b1 : ((rd t160 (ji87)) != t184) = false := bne_eq_false_iff_eq.mpr c98
                                                            clear c98
                                                            as_aux_lemma =>
                                                              obtain rfl := Option.some.inj H
                                                              try go_wp2
                                                              have n0_ := Aside0.mk (Kd.R_drew HO_18.out)
                                                              have n1_ := Aside0.mk (blk_drew BK153.out)
                                                              have n2_ := Aside0.mk (below_drew1 HB.out)
                                                              clear HO_18
                                                              clear BK153
                                                              clear HB
                                                              have HO_18 := n0_
                                                              have BK153 := n1_
                                                              have HB := n2_
                                                              clear n0_ n1_ n2_
                                                              have p181 : 0 ≤ ((ji87) : Int) := of_decide_eq_true (by first | (with_reducible assumption) | assumption)
                                                              have q181 : (ji87) < (l4.length : Int) := of_decide_eq_true (by first | (with_reducible assumption) | assumption)
                                                              obtain ⟨ad181, e181, hx181_0⟩ := Kd.at_int HR4.out (ji87) p181 q181
                                                              have hw181_0 := hx181_0
                                                              cases e181
                                                              replace hx181_0 := (HB.out.cell (World.block_lt_of_cell? w _ hx181_0)).trans hx181_0
                                                              replace p181 := eq_true p181
                                                              replace q181 := eq_true q181
                                                              have p182 : 0 ≤ (t168 : Int) := of_decide_eq_true (by first | (with_reducible assumption) | assumption)
                                                              have q182 : t168 < (l3.length : Int) := of_decide_eq_true (by first | (with_reducible assumption) | assumption)
                                                              obtain ⟨ad182, A182_0, c182_0, e182, hx182_0, hl182_0, hi182_0⟩ := at_L1 HR3.out t168 p182 q182
                                                              have hw182_0 := hx182_0
                                                              cases e182
                                                              replace hx182_0 := (HB.out.cell (World.block_lt_of_cell? w _ hx182_0)).trans hx182_0
                                                              have HR182_0 := Aside0.mk hi182_0
                                                              have HC182_0 := Aside0.mk hl182_0
                                                              clear hi182_0 hl182_0
                                                              replace p182 := eq_true p182
                                                              replace q182 := eq_true q182
                                                              have p183 : 0 ≤ (t166 : Int) := of_decide_eq_true (by first | (with_reducible assumption) | assumption)
                                                              have q183 : t166 < ((rd_L1 l3 t168).length : Int) := of_decide_eq_true (by first | (with_reducible assumption) | assumption)
                                                              obtain ⟨ad183, e183, hx183_0⟩ := Kd.at_int HR182_0.out t166 p183 q183
                                                              have hw183_0 := hx183_0
                                                              cases e183
                                                              replace hx183_0 := (HB.out.cell (World.block_lt_of_cell? w _ hx183_0)).trans hx183_0
                                                              replace p183 := eq_true p183
                                                              replace q183 := eq_true q183
                                                              refine start_ (n := 17) (S := fun w' => w'.cell? (ad181.add ((ji87)).toNat) = some (.int .i64 (rd l4 (ji87))) ∧ w'.cell? (ad182.add (t168).toNat) = some (.slice (some ad183) (rd_L1 l3 t168).length c182_0) ∧ w'.cell? (ad183.add (t166).toNat) = some (.int .i64 (rd (rd_L1 l3 t168) t166))) (ds := []) #[false, false, false, false, false, false, false, false, false, false, false, false, false, false, false, false, false] (by kernel_rfl) rfl rfl ⟨((HB.out.cell (World.block_lt_of_cell? w _ hw181_0)).trans hw181_0), ((HB.out.cell (World.block_lt_of_cell? w _ hw182_0)).trans hw182_0), ((HB.out.cell (World.block_lt_of_cell? w _ hw183_0)).trans hw183_0)⟩ (fun hHeld => ?_); refine with_tabW reedpipelaw14_QuantOwn.tab26 reedpipelaw14_QuantOwn.bits26 (fun HT_ HW_ => ?_)
                                                              generalize wc.drew = w99 at HO_18 BK153 HB HR182_0 hx181_0 hx182_0 hx183_0 hHeld ⊢
                                                              refine pure_ (i := 0) (N := some 192) (v := ?_) (a' := ?_) #[true, false, false, false, false, false, false, false, false, false, false, false, false, false, false, false, false] rfl rfl (any_of HT_.out (by kernel_rfl)) (fun _ _ _ h => h) (Or.inl ⟨by rfl, ?_⟩) ?_ ?_
                                                              rotate_left
                                                              · intro w'
                                                                go_simp
                                                                with_reducible rfl
                                                              rotate_left
                                                              · simp only [Act.put, List.setIfInBounds_toArray, List.set_cons_zero, List.set_cons_succ, i64_w, i32_w]
                                                                rfl
                                                              refine pure_ (i := 1) (N := some 193) (v := ?_) (a' := ?_) #[true, true, false, false, false, false, false, false, false, false, false, false, false, false, false, false, false] rfl rfl (any_of HT_.out (by kernel_rfl)) (fun _ _ _ h => h) (Or.inl ⟨by rfl, ?_⟩) ?_ ?_
                                                              rotate_left
                                                              · intro w'
                                                                go_simp
                                                                with_reducible rfl
                                                              rotate_left
                                                              · simp only [Act.put, List.setIfInBounds_toArray, List.set_cons_zero, List.set_cons_succ, i64_w, i32_w]
                                                                rfl
                                                              refine pure_ (i := 2) (N := some 194) (v := ?_) (a' := ?_) #[true, true, true, false, false, false, false, false, false, false, false, false, false, false, false, false, false] rfl rfl (any_of HT_.out (by kernel_rfl)) (fun _ _ _ h => h) (Or.inl ⟨by rfl, ?_⟩) ?_ ?_
                                                              rotate_left
                                                              · intro w'
                                                                go_simp
                                                                with_reducible rfl
                                                              rotate_left
                                                              · simp only [Act.put, List.setIfInBounds_toArray, List.set_cons_zero, List.set_cons_succ, i64_w, i32_w]
                                                                rfl
                                                              refine pure_ (i := 4) (N := some 196) (v := ?_) (a' := ?_) #[true, true, true, false, true, false, false, false, false, false, false, false, false, false, false, false, false] rfl rfl (any_of HT_.out (by kernel_rfl)) (fun _ _ _ h => h) (Or.inl ⟨by rfl, ?_⟩) ?_ ?_
                                                              rotate_left
                                                              · intro w'
                                                                go_simp
                                                                with_reducible rfl
                                                              rotate_left
                                                              · simp only [Act.put, List.setIfInBounds_toArray, List.set_cons_zero, List.set_cons_succ, i64_w, i32_w]
                                                                rfl
                                                              refine pure_ (i := 5) (N := some 197) (v := ?_) (a' := ?_) #[true, true, true, false, true, true, false, false, false, false, false, false, false, false, false, false, false] rfl rfl (any_of HT_.out (by kernel_rfl)) (fun _ _ _ h => h) (Or.inl ⟨by rfl, ?_⟩) ?_ ?_
                                                              rotate_left
                                                              · intro w'
                                                                go_simp
                                                                with_reducible rfl
                                                              rotate_left
                                                              · simp only [Act.put, List.setIfInBounds_toArray, List.set_cons_zero, List.set_cons_succ, i64_w, i32_w]
                                                                rfl
                                                              refine pure_ (i := 6) (N := some 198) (v := ?_) (a' := ?_) #[true, true, true, false, true, true, true, false, false, false, false, false, false, false, false, false, false] rfl rfl (any_of HT_.out (by kernel_rfl)) (fun _ _ _ h => h) (Or.inl ⟨by rfl, ?_⟩) ?_ ?_
                                                              rotate_left
                                                              · intro w'
                                                                go_simp
                                                                with_reducible rfl
                                                              rotate_left
                                                              · simp only [Act.put, List.setIfInBounds_toArray, List.set_cons_zero, List.set_cons_succ, i64_w, i32_w]
                                                                rfl
                                                              refine pure_ (i := 8) (N := some 200) (v := ?_) (a' := ?_) #[true, true, true, false, true, true, true, false, true, false, false, false, false, false, false, false, false] rfl rfl (any_of HT_.out (by kernel_rfl)) (fun _ _ _ h => h) (Or.inl ⟨by rfl, ?_⟩) ?_ ?_
                                                              rotate_left
                                                              · intro w'
                                                                go_simp
                                                                with_reducible rfl
                                                              rotate_left
                                                              · simp only [Act.put, List.setIfInBounds_toArray, List.set_cons_zero, List.set_cons_succ, i64_w, i32_w]
                                                                rfl
                                                              refine take_ (i := 3) (N := some 195) (v := ?_) (a' := ?_) #[true, true, true, true, true, true, true, false, true, false, false, false, false, false, false, false, false] rfl rfl (take_ofW HT_.out HW_.out (by kernel_rfl)) (fun _ _ _ h => h) (Or.inl ⟨by rfl, ?_⟩) hHeld ?_ ?_
                                                              rotate_left
                                                              · rintro w' ⟨s0, s1, s2⟩
                                                                go_simp
                                                                with_reducible rfl
                                                              rotate_left
                                                              · simp only [Act.put, List.setIfInBounds_toArray, List.set_cons_zero, List.set_cons_succ, i64_w, i32_w]
                                                                rfl
                                                              refine take_ (i := 7) (N := some 199) (v := ?_) (a' := ?_) #[true, true, true, true, true, true, true, true, true, false, false, false, false, false, false, false, false] rfl rfl (take_ofW HT_.out HW_.out (by kernel_rfl)) (fun _ _ _ h => h) (Or.inl ⟨by rfl, ?_⟩) hHeld ?_ ?_
                                                              rotate_left
                                                              · rintro w' ⟨s0, s1, s2⟩
                                                                go_simp
                                                                with_reducible rfl
                                                              rotate_left
                                                              · simp only [Act.put, List.setIfInBounds_toArray, List.set_cons_zero, List.set_cons_succ, i64_w, i32_w]
                                                                rfl
                                                              refine pure_ (i := 9) (N := some 201) (v := ?_) (a' := ?_) #[true, true, true, true, true, true, true, true, true, true, false, false, false, false, false, false, false] rfl rfl (any_of HT_.out (by kernel_rfl)) (fun _ _ _ h => h) (Or.inl ⟨by rfl, ?_⟩) ?_ ?_
                                                              rotate_left
                                                              · intro w'
                                                                go_simp
                                                                with_reducible rfl
                                                              rotate_left
                                                              · simp only [Act.put, List.setIfInBounds_toArray, List.set_cons_zero, List.set_cons_succ, i64_w, i32_w]
                                                                rfl
                                                              refine take_ (i := 10) (N := some 202) (v := ?_) (a' := ?_) #[true, true, true, true, true, true, true, true, true, true, true, false, false, false, false, false, false] rfl rfl (take_ofW HT_.out HW_.out (by kernel_rfl)) (fun _ _ _ h => h) (Or.inl ⟨by rfl, ?_⟩) hHeld ?_ ?_
                                                              rotate_left
                                                              · rintro w' ⟨s0, s1, s2⟩
                                                                go_simp
                                                                with_reducible rfl
                                                              rotate_left
                                                              · simp only [Act.put, List.setIfInBounds_toArray, List.set_cons_zero, List.set_cons_succ, i64_w, i32_w]
                                                                rfl
                                                              refine one_ (i := 11) (N := some 203) #[true, true, true, true, true, true, true, true, true, true, true, true, false, false, false, false, false] rfl rfl (one_of HT_.out (by kernel_rfl)) (by decide) (fun K hK => ?_)
                                                              refine goes_ Try.func17 (by kernel_rfl) rfl #[.int .i64 (rd l4 (ji87)), .int .i64 (rd (rd_L1 l3 t168) t166)] (by rfl) rfl rfl (by (try simp only [List.map_toArray, List.map_cons, List.map_nil]); first | done | (simp only [hji87]; rfl) | rfl | (simp only [List.length_drop, List.length_take]; rfl)) ?_
                                                              with_reducible refine (power_Quant.calls (rd l4 (ji87)) (rd (rd_L1 l3 t168) t166) t184 t185 _ A94.out).mono ?_
                                                              rintro e w100 ⟨rfl, hb⟩
                                                              refine ⟨_, rfl, ?_⟩
                                                              have n0_ := Aside0.mk (Kd.R_below (by (with_reducible repeat (first | apply Kd.R_alloc | apply Kd.R_drewN | apply Kd.R_drew)); exact HO_18.out) hb)
                                                              have n1_ := Aside0.mk (blk_below (g := gb153) (o := .cells #[.int .u8 a1_0, .int .u8 a1_1, .int .i64 a1_2, .slice A1_3 l1_3.length c1_3] 24 (0, 0)) (by (with_reducible repeat (first | refine blk_drewN ?_ _ | refine blk_drew ?_ | refine blk_alloc ?_ _)); exact BK153.out) hb)
                                                              have n2_ := Aside0.mk (below_step (by repeat (first | (with_reducible first | exact HB.out | apply below_alloc | apply pw_below_drewN | apply below_drew1 | refine below_set ?_ GE153.out) | exact HB.out)) hb)
                                                              clear HO_18
                                                              clear BK153
                                                              clear HB
                                                              have HO_18 := n0_
                                                              have BK153 := n1_
                                                              have HB := n2_
                                                              clear n0_ n1_ n2_
                                                              (try clear hb)
                                                              (try clear hb2)
                                                              (try clear hk)
                                                              (try clear hi)
                                                              refine hK.out _ _ ⟨((HB.out.cell (World.block_lt_of_cell? w _ hw181_0)).trans hw181_0), ((HB.out.cell (World.block_lt_of_cell? w _ hw182_0)).trans hw182_0), ((HB.out.cell (World.block_lt_of_cell? w _ hw183_0)).trans hw183_0)⟩ (fun hHeld => ?_)
                                                              clear hK K
                                                              refine norm_ (a' := ?_) ?_ ?_
                                                              rotate_left
                                                              · show Act.put _ (some 203) _ = _
                                                                simp only [Act.put, List.setIfInBounds_toArray, List.set_cons_zero, List.set_cons_succ, i64_w, i32_w]
                                                                rfl
                                                              refine pure_ (i := 12) (N := some 191) (v := ?_) (a' := ?_) #[true, true, true, true, true, true, true, true, true, true, true, true, true, false, false, false, false] rfl rfl (any_of HT_.out (by kernel_rfl)) (fun _ _ _ h => h) (Or.inl ⟨by rfl, ?_⟩) ?_ ?_
                                                              rotate_left
                                                              · intro w'
                                                                go_simp
                                                                with_reducible rfl
                                                              rotate_left
                                                              · simp only [Act.put, List.setIfInBounds_toArray, List.set_cons_zero, List.set_cons_succ, i64_w, i32_w]
                                                                rfl
                                                              refine pure_ (i := 13) (N := some 204) (v := ?_) (a' := ?_) #[true, true, true, true, true, true, true, true, true, true, true, true, true, true, false, false, false] rfl rfl (any_of HT_.out (by kernel_rfl)) (fun _ _ _ h => h) (Or.inl ⟨by rfl, ?_⟩) ?_ ?_
                                                              rotate_left
                                                              · intro w'
                                                                go_simp
                                                                with_reducible rfl
                                                              rotate_left
                                                              · simp only [Act.put, List.setIfInBounds_toArray, List.set_cons_zero, List.set_cons_succ, i64_w, i32_w]
                                                                rfl
                                                              refine pure_ (i := 14) (N := some 205) (v := ?_) (a' := ?_) #[true, true, true, true, true, true, true, true, true, true, true, true, true, true, true, false, false] rfl rfl (any_of HT_.out (by kernel_rfl)) (fun _ _ _ h => h) (Or.inl ⟨by rfl, ?_⟩) ?_ ?_
                                                              rotate_left
                                                              · intro w'
                                                                go_simp
                                                                with_reducible rfl
                                                              rotate_left
                                                              · simp only [Act.put, List.setIfInBounds_toArray, List.set_cons_zero, List.set_cons_succ, i64_w, i32_w]
                                                                rfl
                                                              refine pure_ (i := 15) (N := some 29) (v := ?_) (a' := ?_) #[true, true, true, true, true, true, true, true, true, true, true, true, true, true, true, true, false] rfl rfl (any_of HT_.out (by kernel_rfl)) (fun _ _ _ h => h) (Or.inl ⟨by rfl, ?_⟩) ?_ ?_
                                                              rotate_left
                                                              · intro w'
                                                                go_simp
                                                                with_reducible rfl
                                                              rotate_left
                                                              · simp only [Act.put, List.setIfInBounds_toArray, List.set_cons_zero, List.set_cons_succ, i64_w, i32_w]
                                                                rfl
                                                              refine pure_ (i := 16) (N := some 24) (v := ?_) (a' := ?_) #[true, true, true, true, true, true, true, true, true, true, true, true, true, true, true, true, true] rfl rfl (any_of HT_.out (by kernel_rfl)) (fun _ _ _ h => h) (Or.inl ⟨by rfl, ?_⟩) ?_ ?_
                                                              rotate_left
                                                              · intro w'
                                                                go_simp
                                                                with_reducible rfl
                                                              rotate_left
                                                              · simp only [Act.put, List.setIfInBounds_toArray, List.set_cons_zero, List.set_cons_succ, i64_w, i32_w]
                                                                rfl
                                                              refine done_ (done_of HT_.out (by kernel_rfl)) ?_
                                                              obtain ⟨Ao101, co101, eo101⟩ := Kd.R_slice HO_18.out
                                                              subst eo101
                                                              have p186 : 0 ≤ ((ji87) : Int) := of_decide_eq_true (by first | (with_reducible assumption) | assumption)
                                                              have q186 : (ji87) < (t160.length : Int) := of_decide_eq_true (by first | (with_reducible assumption) | assumption)
                                                              obtain ⟨ad186, e186, hx186_0⟩ := Kd.at_int (Kd.R_reads' HO_18.out).2.2 (ji87) p186 q186
                                                              cases e186
                                                              replace p186 := eq_true p186
                                                              replace q186 := eq_true q186
                                                              try go_wp2
                                                              go_ret
                                                              exact ⟨by first | rfl | (simp [errW_none, errW_some] <;> rfl) | (simp only [← hji87]; first | rfl | (simp [errW_none, errW_some] <;> rfl)) | (simp [*, errW_none, errW_some] <;> rfl), by repeat (first | (with_reducible first | exact HB.out | apply below_alloc | apply pw_below_drewN | apply below_drew1 | refine below_set ?_ GE153.out) | exact HB.out)⟩
                                                          · rw [if_neg c98] at H
                                                            have c98b0 : ((rd t160 (ji87)) == t184) = false := beq_eq_false_iff_ne.mpr c98
                                                            have c98b1 : ((rd t160 (ji87)) != t184) = true := bne_iff_ne.mpr c98
                                                            exact absurd ((Option.some.inj H).trans HRT.out) (by decide)
                                                        · rw [if_neg c97] at H
                                                          exact absurd H (by simp)
                                                      · rw [if_neg c96] at H
                                                        have c96b0 : (t185 == 0) = false := beq_eq_false_iff_ne.mpr c96
                                                        have c96b1 : (t185 != 0) = true := bne_iff_ne.mpr c96
                                                        exact absurd ((Option.some.inj H).trans HRT.out) (by decide)
                                                    · rw [if_neg c95] at H
                                                      have c95b0 : ((t160.length : Int) == 256) = false := beq_eq_false_iff_ne.mpr c95
                                                      have c95b1 : ((t160.length : Int) != 256) = true := bne_iff_ne.mpr c95
                                                      exact absurd ((Option.some.inj H).trans HRT.out) (by decide)
                                                  · rw [if_neg c93] at H
                                                    exact absurd H (by simp)
                                                · rw [if_neg c92] at H
                                                  exact absurd H (by simp)
                                              · rw [if_neg c91] at H
                                                exact absurd H (by simp)
                                            · rw [if_neg c90] at H
                                              exact absurd H (by simp)
                                          · rw [if_neg c89] at H
                                            exact absurd H (by simp)
                                        · rw [if_neg c88] at H
                                          exact absurd H (by simp)
                                      · replace c86 := Bool.eq_false_iff.mpr c86
                                        subst c86
                                        have H1 : (if (t160.length : Int) = 256 then (if x24_59 = 0 then (if 0 ≤ (wrap64 ((wrap64 (a5 * (wrap64 (Int.tdiv (256 : Int) t164)))) + a6)) then (if (wrap64 ((wrap64 (a5 * (wrap64 (Int.tdiv (256 : Int) t164)))) + a6)) < (t160.length : Int) then (if (rd t160 (wrap64 ((wrap64 (a5 * (wrap64 (Int.tdiv (256 : Int) t164)))) + a6))) = 0 then (some t154) else (some false)) else (none)) else (none)) else (some false)) else (some false)) = some r := by rw [if_neg (show ¬ (false = true) by decide)] at H; exact H
                                        clear H
                                        have H := H1
                                        clear H1
                                        by_cases c102 : (t160.length : Int) = 256
                                        · rw [if_pos c102] at H
                                          have c102b0 : ((t160.length : Int) == 256) = true := beq_iff_eq.mpr c102
                                          have c102b1 : ((t160.length : Int) != 256) = false := bne_eq_false_iff_eq.mpr c102
                                          clear c102
                                          by_cases c103 : x24_59 = 0
                                          · rw [if_pos c103] at H
                                            have c103b0 : (x24_59 == 0) = true := beq_iff_eq.mpr c103
                                            have c103b1 : (x24_59 != 0) = false := bne_eq_false_iff_eq.mpr c103
                                            clear c103
                                            obtain ⟨ji104, hji104⟩ : ∃ j_ : Int, (wrap64 ((wrap64 (a5 * (wrap64 (Int.tdiv (256 : Int) t164)))) + a6)) = j_ := ⟨_, rfl⟩
                                            replace H : (if 0 ≤ (ji104) then (if (ji104) < (t160.length : Int) then (if (rd t160 (ji104)) = 0 then (some t154) else (some false)) else (none)) else (none)) = some r := by first | (rw [hji104] at H; exact H) | (simp only [hji104] at H ⊢; exact H)
                                            have hji104w : (IntKind.i64.wrap ((wrap64 (a5 * (wrap64 (Int.tdiv (256 : Int) t164)))) + a6)) = ji104 := (i64_w _).trans hji104
                                            by_cases c105 : 0 ≤ (ji104)
                                            · rw [if_pos c105] at H
                                              have c105b0 : decide (0 ≤ (ji104)) = true := decide_eq_true c105
                                              clear c105
                                              by_cases c106 : (ji104) < (t160.length : Int)
                                              · rw [if_pos c106] at H
                                                have c106b0 : decide ((ji104) < (t160.length : Int)) = true := decide_eq_true c106
                                                clear c106
                                                by_cases c107 : (rd t160 (ji104)) = 0
                                                · rw [if_pos c107] at H
                                                  have c107b0 : ((rd t160 (ji104)) == 0) = true := beq_iff_eq.mpr c107
                                                  have c107b1 : ((rd t160 (ji104)) != 0) = false := bne_eq_false_iff_eq.mpr c107
                                                  clear c107
                                                  as_aux_lemma =>
                                                    obtain rfl := Option.some.inj H
                                                    obtain ⟨Ao108, co108, eo108⟩ := Kd.R_slice HO_18.out
                                                    subst eo108
                                                    have p187 : 0 ≤ ((ji104) : Int) := of_decide_eq_true (by first | (with_reducible assumption) | assumption)
                                                    have q187 : (ji104) < (t160.length : Int) := of_decide_eq_true (by first | (with_reducible assumption) | assumption)
                                                    obtain ⟨ad187, e187, hx187_0⟩ := Kd.at_int (Kd.R_reads' HO_18.out).2.2 (ji104) p187 q187
                                                    cases e187
                                                    replace p187 := eq_true p187
                                                    replace q187 := eq_true q187
                                                    go_wp2
                                                    go_ret
                                                    exact ⟨by first | rfl | (simp [errW_none, errW_some] <;> rfl) | (simp only [← hji104]; first | rfl | (simp [errW_none, errW_some] <;> rfl)) | (simp [*, errW_none, errW_some] <;> rfl), by repeat (first | (with_reducible first | exact HB.out | apply below_alloc | apply pw_below_drewN | apply below_drew1 | refine below_set ?_ GE153.out) | exact HB.out)⟩
                                                · rw [if_neg c107] at H
                                                  have c107b0 : ((rd t160 (ji104)) == 0) = false := beq_eq_false_iff_ne.mpr c107
                                                  have c107b1 : ((rd t160 (ji104)) != 0) = true := bne_iff_ne.mpr c107
                                                  exact absurd ((Option.some.inj H).trans HRT.out) (by decide)
                                              · rw [if_neg c106] at H
                                                exact absurd H (by simp)
                                            · rw [if_neg c105] at H
                                              exact absurd H (by simp)
                                          · rw [if_neg c103] at H
                                            have c103b0 : (x24_59 == 0) = false := beq_eq_false_iff_ne.mpr c103
                                            have c103b1 : (x24_59 != 0) = true := bne_iff_ne.mpr c103
                                            exact absurd ((Option.some.inj H).trans HRT.out) (by decide)
                                        · rw [if_neg c102] at H
                                          have c102b0 : ((t160.length : Int) == 256) = false := beq_eq_false_iff_ne.mpr c102
                                          have c102b1 : ((t160.length : Int) != 256) = true := bne_iff_ne.mpr c102
                                          exact absurd ((Option.some.inj H).trans HRT.out) (by decide)
                                    · rw [if_neg c85] at H
                                      have c85b0 : (t163 == 0) = false := beq_eq_false_iff_ne.mpr c85
                                      have c85b1 : (t163 != 0) = true := bne_iff_ne.mpr c85
                                      as_aux_lemma =>
                                        obtain rfl := Option.some.inj H
                                        go_wp2
                                        go_ret
                                        exact ⟨by first | rfl | (simp [errW_none, errW_some] <;> rfl) | (simp [*, errW_none, errW_some] <;> rfl), by repeat (first | (with_reducible first | exact HB.out | apply below_alloc | apply pw_below_drewN | apply below_drew1 | refine below_set ?_ GE153.out) | exact HB.out)⟩

end Go.Proofs.Ytcfkkdjnalbnoaa.PrintO
