/-
  What the printed functions of package info come to.
-/
import Derived.Test.YtcfkkdjnalbnoaaPrintI1
import Derived.Test.YtcfkkdjnalbnoaaM1
namespace Go.Proofs.Ytcfkkdjnalbnoaa
open Go.RowKit Go.Proofs.YtcfkkdjnalbnoaaW.PrintWords Go.Proofs.YtcfkkdjnalbnoaaW.PrintLast PrintI

def sumI : List Int → Int
  | [] => 0
  | g :: gs => g + sumI gs
/-- Groups that may be. -/
def grpB (seq : Int) (gs : List Int) : Bool := if seq = 2 then (gs.all fun g => decide (1 ≤ g) && decide (g ≤ 8)) && (decide (sumI gs = 8) && decide (gs.length ≤ 8)) else decide (gs = [1])
/-- How many bands. -/
def bands (rate : Int) (short : Bool) : Int := ((offs rate short).length : Int) - 1
/-- The error of windows. -/
def chk (rate seq shape max : Int) (gs : List Int) : Int :=
  if rate < 0 ∨ 11 < rate then 2 else if 3 < seq ∨ 1 < shape ∨ max < 0 ∨ bands rate (seq == 2) < max ∨ grpB seq gs = false then 8 else 0
/-- How many windows. -/
def wins (seq : Int) : Nat := if seq = 2 then 8 else 1

theorem offs_bd : ∀ r, r < 12 → ∀ short : Bool, 2 ≤ (offs (r : Nat) short).length ∧ (offs (r : Nat) short).length ≤ 41 ∧ (offs (r : Nat) short).length ≤ (offs 11 short).length := by decide +kernel
theorem offs_len {rate : Int} (h0 : 0 ≤ rate) (h1 : rate ≤ 11) (short : Bool) : 2 ≤ (offs rate short).length ∧ (offs rate short).length ≤ 41 ∧ (offs rate short).length ≤ (offs 11 short).length := by
  have := offs_bd rate.toNat (by omega) short
  rwa [Int.toNat_of_nonneg h0] at this
theorem many_yes {rate : Int} (h0 : 0 ≤ rate) (h1 : rate ≤ 11) (short : Bool) : band_Many.f rate short = some (bands rate short, 0) := by
  have h := offs_len h0 h1 short
  unfold band_Many.f band_Offsets.f
  rw [if_neg (by omega), if_neg (by omega)]
  simp only [Option.bind_some]
  rw [show wrap64 (((offs rate short).length : Int) - 1) = ((offs rate short).length : Int) - 1 from by unfold wrap64; omega]
  unfold bands
  rw [show mx (((offs rate short).length : Int) - 1) 0 = ((offs rate short).length : Int) - 1 from by unfold mx; omega]
theorem many_no {rate : Int} (h : rate < 0 ∨ 11 < rate) (short : Bool) : band_Many.f rate short = some (0, 2) := by
  have e : mx (wrap64 (((0 : Nat) : Int) - 1)) 0 = 0 := by unfold mx wrap64; omega
  unfold band_Many.f band_Offsets.f
  by_cases h0 : rate < 0
  · rw [if_pos h0]; simp only [Option.bind_some, List.length_nil]; rw [e]
  · rw [if_neg h0, if_pos (by omega)]; simp only [Option.bind_some, List.length_nil]; rw [e]

theorem rd_at (l : List Int) (i : Nat) (h : i < l.length) : rd l i = l[i] := by
  unfold rd; rw [Int.toNat_natCast, List.getD_eq_getElem?_getD, List.getElem?_eq_getElem h]; rfl

/-- Two lists compared, from a place on. -/
theorem equal_from (l m : List Int) (hl : l.length = m.length) (hm : l.length ≤ 140737488355328) : ∀ (d k i : Nat), l.length - i = d → i ≤ l.length → d < k → slices_Equal_int_int.l0 k l m (l.length : Int) (i : Int) = some (decide (l.drop i = m.drop i)) := by
  intro d
  induction d with
  | zero =>
    intro k i hd hi hk
    obtain ⟨k, rfl⟩ : ∃ j, k = j + 1 := ⟨k - 1, by omega⟩
    simp only [slices_Equal_int_int.l0]
    rw [if_neg (by omega), List.drop_of_length_le (by omega), List.drop_of_length_le (by omega)]
    rfl
  | succ d ih =>
    intro k i hd hi hk
    obtain ⟨k, rfl⟩ : ∃ j, k = j + 1 := ⟨k - 1, by omega⟩
    have h1 : i < l.length := by omega
    have h2 : i < m.length := by omega
    simp only [slices_Equal_int_int.l0]
    rw [if_pos (by omega), if_pos (by omega), if_pos (by omega), if_pos (by omega), rd_at l i h1, rd_at m i h2]
    have e : (l.drop i = m.drop i) ↔ (l[i] = m[i] ∧ l.drop (i + 1) = m.drop (i + 1)) := by
      have e1 := List.drop_eq_getElem_cons h1
      have e2 := List.drop_eq_getElem_cons h2
      rw [e1, e2, List.cons.injEq]
    by_cases he : l[i] = m[i]
    · rw [if_pos he, show wrap64 ((i : Int) + 1) = ((i + 1 : Nat) : Int) from by unfold wrap64; omega, ih k (i + 1) (by omega) (by omega) (by omega)]
      congr 1
      exact decide_eq_decide.mpr ⟨fun h => e.mpr ⟨he, h⟩, fun h => (e.mp h).2⟩
    · rw [if_neg he, decide_eq_false]
      exact fun h => he (e.mp h).1
theorem equal_is (l m : List Int) (hm : l.length ≤ 140737488355328) (k : Nat) (hk : l.length < k) : slices_Equal_int_int.f k l m = some (decide (l = m)) := by
  unfold slices_Equal_int_int.f
  by_cases h : l.length = m.length
  · rw [if_pos (by omega)]
    have := equal_from l m h hm l.length k 0 (by omega) (by omega) (by omega)
    simpa using this
  · rw [if_neg (by omega)]
    rw [decide_eq_false]
    rintro rfl
    exact h rfl

/-- The groups of short windows, from a place on. -/
theorem grouped_from (a b c : Int) (gs : List Int) (hm : gs.length ≤ 140737488355328) : ∀ (d k i : Nat) (s : Int), gs.length - i = d → i ≤ gs.length → d < k → 0 ≤ s → s ≤ 8 * i →
    info_grouped.l0 k s gs (gs.length : Int) (i : Int) a b c gs = some (((gs.drop i).all fun g => decide (1 ≤ g) && decide (g ≤ 8)) && (decide (s + sumI (gs.drop i) = 8) && decide (gs.length ≤ 8))) := by
  intro d
  induction d with
  | zero =>
    intro k i s hd hi hk hs0 hs1
    obtain ⟨k, rfl⟩ : ∃ j, k = j + 1 := ⟨k - 1, by omega⟩
    simp only [info_grouped.l0]
    rw [if_neg (by omega), List.drop_of_length_le (by omega)]
    simp only [List.all_nil, sumI, Int.add_zero, Bool.true_and]
    by_cases h8 : s = 8
    · rw [if_pos h8, decide_eq_true h8, Bool.true_and]
      congr 1
      exact decide_eq_decide.mpr (by omega)
    · rw [if_neg h8, decide_eq_false h8, Bool.false_and]
  | succ d ih =>
    intro k i s hd hi hk hs0 hs1
    obtain ⟨k, rfl⟩ : ∃ j, k = j + 1 := ⟨k - 1, by omega⟩
    have h1 : i < gs.length := by omega
    simp only [info_grouped.l0]
    rw [if_pos (by omega), if_pos (by omega), if_pos (by omega), rd_at gs i h1, List.drop_eq_getElem_cons h1]
    simp only [List.all_cons, sumI]
    by_cases hlo : gs[i] < 1
    · rw [if_pos hlo, decide_eq_false (by omega)]; simp
    · rw [if_neg hlo]
      by_cases hhi : gs[i] > 8
      · rw [if_pos hhi, decide_eq_false (p := gs[i] ≤ 8) (by omega)]; simp
      · have e : decide (s + gs[i] + sumI (gs.drop (i + 1)) = 8) = decide (s + (gs[i] + sumI (gs.drop (i + 1))) = 8) := decide_eq_decide.mpr (by omega)
        rw [if_neg hhi, show wrap64 ((i : Int) + 1) = ((i + 1 : Nat) : Int) from by unfold wrap64; omega, show wrap64 (s + gs[i]) = s + gs[i] from by unfold wrap64; omega,
          ih k (i + 1) (s + gs[i]) (by omega) (by omega) (by omega) (by omega) (by omega), decide_eq_true (p := 1 ≤ gs[i]) (by omega), decide_eq_true (p := gs[i] ≤ 8) (by omega), e]
        rfl
theorem grouped_is (seq shape max : Int) (gs : List Int) (hm : gs.length ≤ 140737488355328) (k : Nat) (hk : gs.length < k) : info_grouped.f k seq shape max gs = some (grpB seq gs) := by
  unfold info_grouped.f grpB
  by_cases h : seq = 2
  · rw [if_pos h, if_pos h]
    have := grouped_from seq shape max gs hm gs.length k 0 0 (by omega) (by omega) hk (by omega) (by omega)
    simpa using this
  · rw [if_neg h, if_neg h, equal_is gs [1] hm k hk]
    rfl
theorem check_is (rate seq shape max : Int) (gs : List Int) (hm : gs.length ≤ 140737488355328) (k : Nat) (hk : gs.length < k) : info_Check.f k rate seq shape max gs = some (chk rate seq shape max gs) := by
  unfold info_Check.f chk
  by_cases h : rate < 0 ∨ 11 < rate
  · rw [many_no h, if_pos h]; rfl
  · rw [many_yes (by omega) (by omega), if_neg h]
    simp only [Option.bind_some, if_true]
    by_cases h1 : seq > 3
    · rw [if_pos h1, if_pos (.inl h1)]
    · rw [if_neg h1]
      by_cases h2 : shape > 1
      · rw [if_pos h2, if_pos (.inr (.inl h2))]
      · rw [if_neg h2]
        by_cases h3 : max < 0
        · rw [if_pos h3, if_pos (.inr (.inr (.inl h3)))]
        · rw [if_neg h3]
          by_cases h4 : max > bands rate (seq == 2)
          · rw [if_pos h4, if_pos (.inr (.inr (.inr (.inl h4))))]
          · rw [if_neg h4, grouped_is seq shape max gs hm k hk]
            simp only [Option.bind_some]
            by_cases h5 : grpB seq gs = true
            · rw [if_pos h5, if_neg]
              rintro (h | h | h | h | h)
              · exact h1 h
              · exact h2 h
              · exact h3 h
              · exact h4 h
              · rw [h5] at h; cases h
            · rw [if_neg h5, if_pos (.inr (.inr (.inr (.inr (Bool.eq_false_iff.mpr h5)))))]
/-- What windows that may be are. -/
structure MayBe (rate seq shape max : Int) (gs : List Int) : Prop where
  r0 : 0 ≤ rate
  r1 : rate ≤ 11
  s3 : seq ≤ 3
  s1 : shape ≤ 1
  m0 : 0 ≤ max
  m1 : max ≤ bands rate (seq == 2)
  g : grpB seq gs = true
theorem may_be {rate seq shape max : Int} {gs : List Int} (h : chk rate seq shape max gs = 0) : MayBe rate seq shape max gs := by
  unfold chk at h
  by_cases h1 : rate < 0 ∨ 11 < rate
  · rw [if_pos h1] at h; cases h
  · rw [if_neg h1] at h
    by_cases h2 : 3 < seq ∨ 1 < shape ∨ max < 0 ∨ bands rate (seq == 2) < max ∨ grpB seq gs = false
    · rw [if_pos h2] at h; cases h
    · have h3 : grpB seq gs = true := by
        cases hg : grpB seq gs
        · exact absurd (.inr (.inr (.inr (.inr hg)))) h2
        · rfl
      exact ⟨by omega, by omega, by omega, by omega, by omega, by omega, h3⟩
theorem may_chk {rate seq shape max : Int} {gs : List Int} (h : MayBe rate seq shape max gs) : chk rate seq shape max gs = 0 := by
  obtain ⟨h1, h2, h3, h4, h5, h6, h7⟩ := h
  unfold chk
  rw [if_neg (by omega), if_neg]
  rintro (h | h | h | h | h)
  · omega
  · omega
  · omega
  · omega
  · rw [h7] at h; cases h
theorem may_eleven {rate seq shape max : Int} {gs : List Int} (h : MayBe rate seq shape max gs) : MayBe 11 seq shape max gs := by
  have := offs_len h.r0 h.r1 (seq == 2)
  have h1 := h.m1
  exact ⟨by omega, by omega, h.s3, h.s1, h.m0, by unfold bands at *; omega, h.g⟩
theorem may_len {rate seq shape max : Int} {gs : List Int} (h : MayBe rate seq shape max gs) : gs.length ≤ 8 := by
  have := h.g
  unfold grpB at this
  split at this
  · simp only [Bool.and_eq_true, decide_eq_true_eq] at this; exact this.2.2
  · have e := of_decide_eq_true this; rw [e]; decide
theorem may_sum {rate seq shape max : Int} {gs : List Int} (h : MayBe rate seq shape max gs) : (∀ g ∈ gs, 1 ≤ g ∧ g ≤ 8) ∧ sumI gs = wins seq := by
  have := h.g
  unfold grpB at this
  unfold wins
  split at this
  · rename_i hs
    rw [if_pos hs]
    simp only [Bool.and_eq_true, decide_eq_true_eq, List.all_eq_true] at this
    exact ⟨this.1, this.2.1⟩
  · rename_i hs
    rw [if_neg hs]
    have e := of_decide_eq_true this
    subst e
    exact ⟨by simp, rfl⟩
theorem windows_is (seq shape max : Int) (gs : List Int) (hm : gs.length ≤ 140737488355328) (k : Nat) (hk : gs.length < k) (h : chk 11 seq shape max gs = 0) : info_Windows.f k seq shape max gs = some ((wins seq : Int), 0) := by
  unfold info_Windows.f info_some.f
  rw [check_is 11 seq shape max gs hm k hk, h]
  simp only [Option.bind_some]
  rw [if_pos (show ((0 : Int) == 0) = true from rfl)]
  unfold wins
  split <;> rfl
theorem windows_no (seq shape max : Int) (gs : List Int) (hm : gs.length ≤ 140737488355328) (k : Nat) (hk : gs.length < k) (h : chk 11 seq shape max gs ≠ 0) : info_Windows.f k seq shape max gs = some (0, 8) := by
  unfold info_Windows.f info_some.f
  rw [check_is 11 seq shape max gs hm k hk]
  simp only [Option.bind_some]
  rw [if_neg (by rw [beq_iff_eq]; exact h)]

/-- A window's group. -/
def grpOf : List Int → Int → Nat
  | [], _ => 0
  | g :: gs, left => if g ≤ left then grpOf gs (left - g) + 1 else 0
theorem grpOf_lt : ∀ (gs : List Int) (left : Int), left < sumI gs → grpOf gs left < gs.length ∨ gs = []
  | [], _, _ => .inr rfl
  | g :: gs, left, h => by
    refine .inl ?_
    unfold grpOf
    simp only [sumI] at h
    split
    · rcases grpOf_lt gs (left - g) (by omega) with h1 | h1
      · simp; omega
      · subst h1; simp only [sumI] at h; omega
    · simp
theorem group_from (a b c : Int) (gs : List Int) (hp : ∀ g ∈ gs, 1 ≤ g ∧ g ≤ 8) (hm : gs.length ≤ 8) : ∀ (d k i : Nat) (left : Int), gs.length - i = d → i ≤ gs.length → d < k → 0 ≤ left → left < sumI (gs.drop i) → left ≤ 8 →
    info_Group.l0 k (i : Int) left a b c gs = some (((i + grpOf (gs.drop i) left : Nat) : Int), 0) := by
  intro d
  induction d with
  | zero =>
    intro k i left hd hi hk h0 h1 h8
    rw [List.drop_of_length_le (by omega)] at h1
    simp only [sumI] at h1
    omega
  | succ d ih =>
    intro k i left hd hi hk h0 h1 h8
    obtain ⟨k, rfl⟩ : ∃ j, k = j + 1 := ⟨k - 1, by omega⟩
    have hi2 : i < gs.length := by omega
    have hg := hp gs[i] (List.getElem_mem hi2)
    simp only [info_Group.l0]
    rw [List.drop_eq_getElem_cons hi2] at h1 ⊢
    simp only [sumI] at h1
    rw [if_pos (by omega), if_pos (by omega), rd_at gs i hi2]
    simp only [grpOf]
    by_cases hl : left ≥ gs[i]
    · rw [if_pos hl, if_pos hl, show wrap64 ((i : Int) + 1) = ((i + 1 : Nat) : Int) from by unfold wrap64; omega, show wrap64 (left - gs[i]) = left - gs[i] from by unfold wrap64; omega,
        ih k (i + 1) (left - gs[i]) (by omega) (by omega) (by omega) (by omega) (by omega) (by omega)]
      congr 2
      omega
    · rw [if_neg hl, if_neg hl]
      rfl
theorem group_is {rate seq shape max : Int} {gs : List Int} (h : MayBe rate seq shape max gs) (k : Nat) (hk : gs.length + 2 < k) (v : Int) (h0 : 0 ≤ v) (h1 : v < wins seq) : info_Group.f k seq shape max gs v = some ((grpOf gs v : Int), 0) := by
  have hl := may_len h
  obtain ⟨hp, hs⟩ := may_sum h
  have hw : wins seq ≤ 8 := by unfold wins; split <;> omega
  unfold info_Group.f
  rw [windows_is seq shape max gs (by omega) k (by omega) (may_chk (may_eleven h))]
  simp only [Option.bind_some, if_true]
  obtain ⟨k, rfl⟩ : ∃ j, k = j + 1 := ⟨k - 1, by omega⟩
  rw [if_neg (by omega), decide_eq_false (by omega)]
  simp only [info_Group.j0]
  rw [if_neg (by decide)]
  have := group_from seq shape max gs hp hl gs.length k 0 v (by omega) (by omega) (by omega) h0 (by simp; omega) (by omega)
  simpa using this
theorem group_lt {rate seq shape max : Int} {gs : List Int} (h : MayBe rate seq shape max gs) (v : Int) (h1 : v < wins seq) : grpOf gs v < gs.length := by
  obtain ⟨hp, hs⟩ := may_sum h
  rcases grpOf_lt gs v (by omega) with h2 | h2
  · exact h2
  · subst h2
    have hw : 1 ≤ wins seq := by unfold wins; split <;> omega
    simp only [sumI] at hs
    omega
end Go.Proofs.Ytcfkkdjnalbnoaa
