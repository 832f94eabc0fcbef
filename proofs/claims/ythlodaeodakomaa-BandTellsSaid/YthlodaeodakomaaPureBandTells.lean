/-
  Offsets, how many bands there are, and a line's band, or the errors, are the document's, and new memory: any rate, kind of window and line, without a condition.
-/
import Derived.Test.YthlodaeodakomaaPrintB19
import Derived.Test.YthlodaeodakomaaPb
namespace Go.Proofs.Ythlodaeodakomaa.Pure
open Go.RowKit Go.Proofs.Ythlodaeodakomaa.PrintB Go.Proofs.YthlodaeodakomaaW.PrintWords Go.Proofs.YthlodaeodakomaaW.PrintLast

def sameOf (r : Nat) (short : Bool) (line : Nat) : Bool := band_Of.f 400 r short line == reedpiperef06_Of.f 400 r short line && (band_Of.f 400 r short line).isSome

theorem long_of : ∀ r, r < 12 → ∀ line, line < 256 → sameOf r false line = true := by decide +kernel
theorem short_of : ∀ r, r < 12 → ∀ line, line < 32 → sameOf r true line = true := by decide +kernel

theorem same_get {a b : Option (Int × Int)} (h : (a == b && a.isSome) = true) : ∃ r, a = some r ∧ b = some r := by
  cases a with
  | none => simp at h
  | some r => exact ⟨r, rfl, by simp at h; exact h.symm⟩

theorem told_yes : ∀ r, r < 12 → ∀ short : Bool, reedpiperef06_Told.f 400 (r : Nat) short = some (offs (r : Nat) short, 0) := by decide +kernel

theorem ref_out (line : Int) (l : List Int) (hlen : l.length ≤ 41) (H : ∀ j : Nat, j + 1 < l.length → ¬ (rd l j ≤ line ∧ line < rd l ((j + 1 : Nat) : Int))) : ∀ (d k i : Nat), i ≤ l.length → l.length - i = d → d < k → reedpiperef06_Of.l0 k line l i = some (0, 2) := by
  intro d
  induction d with
  | zero =>
    intro k i hil hd hk
    obtain ⟨k, rfl⟩ : ∃ m, k = m + 1 := ⟨k - 1, by omega⟩
    simp only [reedpiperef06_Of.l0]
    have e : wrap64 ((i : Int) + 1) = (i : Int) + 1 := by unfold wrap64; omega
    rw [e, if_neg (by omega)]
  | succ d ih =>
    intro k i hil hd hk
    obtain ⟨k, rfl⟩ : ∃ m, k = m + 1 := ⟨k - 1, by omega⟩
    simp only [reedpiperef06_Of.l0]
    have e : wrap64 ((i : Int) + 1) = ((i + 1 : Nat) : Int) := by unfold wrap64; omega
    rw [e]
    by_cases hi : i + 1 < l.length
    · rw [if_pos (by omega), if_pos (by omega), if_pos (by omega)]
      have := H i hi
      have hn := ih k (i + 1) (by omega) (by omega) (by omega)
      by_cases h1 : line ≥ rd l i
      · rw [if_pos h1, if_pos (by omega), if_neg (fun h2 => this ⟨h1, h2⟩)]
        exact hn
      · rw [if_neg h1]
        exact hn
    · rw [if_neg (by omega)]

theorem offs_in : ∀ r, r < 12 → ∀ short : Bool, ∀ j, j < 41 → j < (offs (r : Nat) short).length → 0 ≤ rd (offs (r : Nat) short) (j : Nat) ∧ rd (offs (r : Nat) short) (j : Nat) ≤ lns short := by decide +kernel

theorem of_same (rate : Int) (short : Bool) (line : Int) (h : 0 ≤ rate ∧ rate ≤ 11) : ∃ r, band_Of.f 400 rate short line = some r ∧ reedpiperef06_Of.f 400 rate short line = some r := by
  by_cases hl : line < 0 ∨ lns short ≤ line
  · refine ⟨_, of_out 399 _ _ _ h hl, ?_⟩
    have ht := told_yes rate.toNat (by omega) short
    obtain ⟨_, b, c⟩ := offs_last rate.toNat (by omega) short
    have hin := offs_in rate.toNat (by omega) short
    rw [Int.toNat_of_nonneg h.1] at ht b c hin
    unfold reedpiperef06_Of.f
    rw [ht]
    simp only [Option.bind_some, ↓reduceIte]
    refine ref_out line (offs rate short) c (fun j hj => ?_) _ 400 0 (Nat.zero_le _) rfl (by omega)
    have h1 := hin j (by omega) (by omega)
    have h2 := hin (j + 1) (by omega) hj
    omega
  · have hf : ∀ s, short = s → ∃ r, band_Of.f 400 rate s line = some r ∧ reedpiperef06_Of.f 400 rate s line = some r := by
      intro s hs
      cases s with
      | false =>
        subst hs
        simp only [lns, Bool.false_eq_true, ↓reduceIte] at hl
        have := long_of rate.toNat (by omega) line.toNat (by omega)
        unfold sameOf at this
        rw [Int.toNat_of_nonneg h.1, Int.toNat_of_nonneg (by omega)] at this
        exact same_get this
      | true =>
        subst hs
        simp only [lns, ↓reduceIte] at hl
        have := short_of rate.toNat (by omega) line.toNat (by omega)
        unfold sameOf at this
        rw [Int.toNat_of_nonneg h.1, Int.toNat_of_nonneg (by omega)] at this
        exact same_get this
    exact hf short rfl

def restOk (r : Nat) (short : Bool) : Bool :=
  (band_Many.f r short == reedpiperef06_Many.f 400 r short) && (band_Many.f r short).isSome && (reedpiperef06_Ints.f 400 (offs r short) (offs r short) == some true) && (reedpipelaw06_BandTells.j0 400 r short (offs r short) (offs r short) true == some true)

theorem rest_all : ∀ r, r < 12 → ∀ short : Bool, restOk r short = true := by decide +kernel

theorem BandTells : reedpipelaw06_BandTells.Pure := by
  intro rate short line _ _
  refine ⟨400, ?_⟩
  unfold reedpipelaw06_BandTells.f
  by_cases h : 0 ≤ rate ∧ rate ≤ 11
  · obtain ⟨r, a, b⟩ := of_same rate short line h
    have ht := told_yes rate.toNat (by omega) short
    have hr := rest_all rate.toNat (by omega) short
    unfold restOk at hr
    rw [Int.toNat_of_nonneg h.1] at ht hr
    simp only [Bool.and_eq_true] at hr
    obtain ⟨⟨⟨r1, r2⟩, r3⟩, r4⟩ := hr
    obtain ⟨q, q1, q2⟩ := same_get (a := band_Many.f rate short) (b := reedpiperef06_Many.f 400 rate short) (by rw [r1, r2]; rfl)
    rw [offs_yes _ _ h, ht, q1, q2, a, b]
    simp only [Option.bind_some, eq_of_beq r3, ↓reduceIte, beq_self_eq_true]
    exact eq_of_beq r4
  · rw [offs_no _ _ h, of_no 400 _ _ _ h]
    have e1 : reedpiperef06_Told.f 400 rate short = some ([], 2) := by
      unfold reedpiperef06_Told.f
      by_cases h1 : rate < 0
      · rw [if_pos h1]
      · rw [if_neg h1, if_pos (by omega)]
    have e2 : band_Many.f rate short = some (0, 2) := by
      unfold band_Many.f
      rw [offs_no _ _ h]
      decide +kernel
    have e3 : reedpiperef06_Many.f 400 rate short = some (0, 2) := by
      unfold reedpiperef06_Many.f
      rw [e1]
      rfl
    have e4 : reedpiperef06_Of.f 400 rate short line = some (0, 2) := by
      unfold reedpiperef06_Of.f
      rw [e1]
      rfl
    rw [e1, e2, e3, e4]
    simp only [Option.bind_some]
    have e5 : reedpiperef06_Ints.f 400 [] [] = some true := by decide +kernel
    rw [e5]
    have e6 : reedpiperef06_Ints.f 398 [] [] = some true := by decide +kernel
    have e7 : reedpipelaw06_BandTells.j0 (398 + 1 + 1) rate short [] [] true = some true := by
      rw [reedpipelaw06_BandTells.j0, reedpipelaw06_BandTells.l0, if_neg (by decide), offs_no _ _ h]
      simp only [Option.bind_some, ↓reduceIte, e6]
    simp only [Option.bind_some, ↓reduceIte, beq_self_eq_true]
    exact e7

end Go.Proofs.Ythlodaeodakomaa.Pure
