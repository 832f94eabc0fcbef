/-
  No line of noise is above MaxLine in size, and the root of the sum of squares is the line of 1 at the step, but for a hundredth, and as much as the root of how many lines there are, and two: any seed, step and many, without a condition.
-/
import Derived.Test.YthlodaeodakomacPrintN5
import Derived.Test.YthlodaeodakomacPn
import Derived.Test.YthlodaeodakomacM6
namespace Go.Proofs.Ythlodaeodakomac.Pure
open Go.RowKit Go.Proofs.Ythlodaeodakomac.PrintN Go.Proofs.YthlodaeodakomacW.PrintWords Go.Proofs.YthlodaeodakomacW.PrintLast

/-- The least number whose square is at least m. -/
theorem root_up (m : Nat) (hm : m ≤ 256) : ∃ r : Nat, r ≤ 16 ∧ m ≤ r * r ∧ ∀ j, j < r → j * j < m := by
  have key : ∀ d r : Nat, 16 - r = d → r ≤ 16 → (∀ j, j < r → j * j < m) → ∃ r : Nat, r ≤ 16 ∧ m ≤ r * r ∧ ∀ j, j < r → j * j < m := by
    intro d
    induction d with
    | zero =>
      intro r hd hr H
      have : r = 16 := by omega
      subst this
      exact ⟨16, by omega, by omega, H⟩
    | succ d ih =>
      intro r hd hr H
      by_cases h : m ≤ r * r
      · exact ⟨r, hr, h, H⟩
      · refine ih (r + 1) (by omega) (by omega) (fun j hj => ?_)
        by_cases hjr : j = r
        · subst hjr; omega
        · exact H j (by omega)
  exact key 16 0 rfl (by omega) (fun j hj => by omega)

/-- What the law says behind its loops. -/
def loudEnd (many a sum root : Int) (t : Bool) : Prop :=
  sum ≤ (a / 16 + a / 1600 + root + 2) * (a / 16 + a / 1600 + root + 2) ∧ (t = true → a / 16 - a / 1600 - root - 2 < 0 ∨ (a / 16 - a / 1600 - root - 2) * (a / 16 - a / 1600 - root - 2) ≤ sum + many)

theorem end_ok (k : Nat) (many a sum root : Int) (t : Bool) (hm0 : 0 ≤ many) (hm : many ≤ 256) (ha0 : 0 ≤ a) (ha1 : a ≤ 268435455) (hr0 : 0 ≤ root) (hr1 : root ≤ 16) (hs0 : 0 ≤ sum) (hs1 : sum ≤ 72057594037927936) (hr : many ≤ root * root)
    (h : loudEnd many a sum root t) : reedpipelaw16_NoiseLoud.l1 (k + 1) many true a sum t root = some true := by
  have hrr : 0 ≤ root * root ∧ root * root ≤ 256 := by
    constructor
    · exact Int.mul_nonneg hr0 hr0
    · have := Int.mul_le_mul hr1 hr1 hr0 (by omega); omega
  obtain ⟨e1, e2⟩ := h
  simp only [reedpipelaw16_NoiseLoud.l1]
  have t1 : Int.tdiv a 16 = a / 16 := Int.tdiv_eq_ediv_of_nonneg ha0
  have t2 : Int.tdiv a 1600 = a / 1600 := Int.tdiv_eq_ediv_of_nonneg ha0
  have w0 : wrap64 (root * root) = root * root := by unfold wrap64; omega
  have w1 : wrap64 (a / 16) = a / 16 := by unfold wrap64; omega
  have w2 : wrap64 (a / 1600) = a / 1600 := by unfold wrap64; omega
  have w3 : wrap64 (a / 16 - a / 1600) = a / 16 - a / 1600 := by unfold wrap64; omega
  have w4 : wrap64 (a / 16 - a / 1600 - root) = a / 16 - a / 1600 - root := by unfold wrap64; omega
  have w5 : wrap64 (a / 16 - a / 1600 - root - 2) = a / 16 - a / 1600 - root - 2 := by unfold wrap64; omega
  have w6 : wrap64 (a / 16 + a / 1600) = a / 16 + a / 1600 := by unfold wrap64; omega
  have w7 : wrap64 (a / 16 + a / 1600 + root) = a / 16 + a / 1600 + root := by unfold wrap64; omega
  have w8 : wrap64 (a / 16 + a / 1600 + root + 2) = a / 16 + a / 1600 + root + 2 := by unfold wrap64; omega
  have w9 : wrap64 (sum + many) = sum + many := by unfold wrap64; omega
  rw [t1, t2, w0, w1, w2, w3, w4, w5, w6, w7, w8, w9, if_neg (by omega), if_pos trivial]
  have hn : ¬ (a / 16 - a / 1600 - root - 2 < 0) → wrap64 ((a / 16 - a / 1600 - root - 2) * (a / 16 - a / 1600 - root - 2)) = (a / 16 - a / 1600 - root - 2) * (a / 16 - a / 1600 - root - 2) := by
    intro hx
    have q0 := Int.mul_nonneg (show 0 ≤ a / 16 - a / 1600 - root - 2 by omega) (show 0 ≤ a / 16 - a / 1600 - root - 2 by omega)
    have q1 := Int.mul_le_mul (show a / 16 - a / 1600 - root - 2 ≤ 268435455 by omega) (show a / 16 - a / 1600 - root - 2 ≤ 268435455 by omega) (by omega) (by omega)
    unfold wrap64; omega
  have hf : wrap64 ((a / 16 + a / 1600 + root + 2) * (a / 16 + a / 1600 + root + 2)) = (a / 16 + a / 1600 + root + 2) * (a / 16 + a / 1600 + root + 2) := by
    have q0 := Int.mul_nonneg (show 0 ≤ a / 16 + a / 1600 + root + 2 by omega) (show 0 ≤ a / 16 + a / 1600 + root + 2 by omega)
    have q1 := Int.mul_le_mul (show a / 16 + a / 1600 + root + 2 ≤ 268435455 by omega) (show a / 16 + a / 1600 + root + 2 ≤ 268435455 by omega) (by omega) (by omega)
    unfold wrap64; omega
  rw [hf]
  have hlast : (if t = true then (if a / 16 - a / 1600 - root - 2 < 0 then some true else some (decide (sum + many ≥ wrap64 ((a / 16 - a / 1600 - root - 2) * (a / 16 - a / 1600 - root - 2))))) else some true) = some true := by
    by_cases ht : t = true
    · rw [if_pos ht]
      by_cases hx : a / 16 - a / 1600 - root - 2 < 0
      · rw [if_pos hx]
      · rw [if_neg hx, hn hx, decide_eq_true]
        rcases e2 ht with h | h
        · exact absurd h hx
        · exact h
    · rw [if_neg ht]
  by_cases hz : many = 0
  · rw [if_pos hz]; exact hlast
  · rw [if_neg hz, if_pos e1]; exact hlast

theorem root_loop' (many a sum : Int) (t : Bool) (r : Nat) (hr : r ≤ 16) (H : ∀ j : Nat, j < r → (j : Int) * j < many) (hmr : many ≤ (r : Int) * r) (hm0 : 0 ≤ many) (hm : many ≤ 256) (ha0 : 0 ≤ a) (ha1 : a ≤ 268435455) (hs0 : 0 ≤ sum) (hs1 : sum ≤ 72057594037927936)
    (h : loudEnd many a sum r t) : ∀ (d k i : Nat), i ≤ r → r - i = d → d < k → reedpipelaw16_NoiseLoud.l1 k many true a sum t i = some true := by
  intro d
  induction d with
  | zero =>
    intro k i hi hd hk
    obtain ⟨k, rfl⟩ : ∃ m, k = m + 1 := ⟨k - 1, by omega⟩
    have : i = r := by omega
    subst this
    exact end_ok k many a sum i t hm0 hm ha0 ha1 (by omega) (by omega) hs0 hs1 hmr h
  | succ d ih =>
    intro k i hi hd hk
    obtain ⟨k, rfl⟩ : ∃ m, k = m + 1 := ⟨k - 1, by omega⟩
    have hn := ih k (i + 1) (by omega) (by omega) (by omega)
    have hlt := H i (by omega)
    have hb : (0 : Int) ≤ (i : Int) * i ∧ (i : Int) * i ≤ 256 := ⟨Int.mul_nonneg (by omega) (by omega), by omega⟩
    have e : wrap64 ((i : Int) + 1) = ((i + 1 : Nat) : Int) := by unfold wrap64; omega
    have w0 : wrap64 ((i : Int) * i) = (i : Int) * i := by unfold wrap64; omega
    simp only [reedpipelaw16_NoiseLoud.l1]
    rw [w0, if_pos hlt, e, hn]

/-- The sum that the law makes, and whether a line is no nought. -/
def lsum : List Int → Int
  | [] => 0
  | v :: l => v * v / 256 + lsum l
def lsome : List Int → Bool
  | [] => false
  | v :: l => (v != 0) || lsome l

theorem lsum_append (l m : List Int) : lsum (l ++ m) = lsum l + lsum m := by
  induction l with
  | nil => simp [lsum]
  | cons v l ih => simp only [List.cons_append, lsum, ih]; omega
theorem lsome_append (l m : List Int) : lsome (l ++ m) = (lsome l || lsome m) := by
  induction l with
  | nil => simp [lsome]
  | cons v l ih => simp only [List.cons_append, lsome, ih, Bool.or_assoc]

theorem lsum_bd (l : List Int) (h : ∀ v ∈ l, -268435455 ≤ v ∧ v ≤ 268435455) : 0 ≤ lsum l ∧ lsum l ≤ l.length * 281474976710656 := by
  induction l with
  | nil => simp [lsum]
  | cons v l ih =>
    have h1 := ih (fun u hu => h u (List.mem_cons_of_mem _ hu))
    have h2 := h v (List.mem_cons_self ..)
    have h3 := sq_abs (x := v) (d := 268435455) h2.1 h2.2
    have h4 := sq_nonneg v
    simp only [lsum, List.length_cons]
    omega

theorem take_snoc' (l : List Int) (i : Nat) (h : i < l.length) : l.take (i + 1) = l.take i ++ [rd l i] := by
  rw [List.take_succ_eq_append_getElem h]
  congr 2
  unfold rd
  rw [Int.toNat_natCast, List.getD_eq_getElem?_getD, List.getElem?_eq_getElem h]
  rfl

theorem loud_loop (many a : Int) (l : List Int) (r : Nat) (hl : (l.length : Int) = many) (hlen : l.length ≤ 256) (hb : ∀ v ∈ l, -268435455 ≤ v ∧ v ≤ 268435455) (R : reedpipelaw16_NoiseLoud.l1 r many true a (lsum l) (lsome l) 0 = some true) :
    ∀ (d k i : Nat), i ≤ l.length → l.length - i = d → d + r < k → reedpipelaw16_NoiseLoud.l0 k many true l a (lsum (l.take i)) (lsome (l.take i)) i = some true := by
  intro d
  induction d with
  | zero =>
    intro k i hi hd hk
    obtain ⟨k, rfl⟩ : ∃ m, k = m + 1 := ⟨k - 1, by omega⟩
    simp only [reedpipelaw16_NoiseLoud.l0]
    rw [if_neg (by omega), show i = l.length from by omega, List.take_length]
    exact at_rounds (fun k => (reedpipelaw16_NoiseLoud.mono_l k).2.2 _ _ _ _ _ _) (show r ≤ k by omega) R
  | succ d ih =>
    intro k i hi hd hk
    obtain ⟨k, rfl⟩ : ∃ m, k = m + 1 := ⟨k - 1, by omega⟩
    have hn := ih k (i + 1) (by omega) (by omega) (by omega)
    have e : wrap64 ((i : Int) + 1) = ((i + 1 : Nat) : Int) := by unfold wrap64; omega
    have b1 : (i : Int) < many := by omega
    have b2 : (0 : Int) ≤ (i : Int) := by omega
    have b3 : (i : Int) < (l.length : Int) := by omega
    obtain ⟨v0, v1⟩ := hb (rd l i) (rd_mem l i (by omega))
    obtain ⟨s0, s1⟩ := lsum_bd (l.take i) (fun v hv => hb v (List.mem_of_mem_take hv))
    have hti := List.length_take_le i l
    rw [take_snoc' l i (by omega), lsum_append, lsome_append] at hn
    simp only [lsum, lsome, Bool.or_false, Int.add_zero] at hn
    have hq := sq_abs (x := rd l i) (d := 268435455) v0 v1
    have hq0 := sq_nonneg (rd l i)
    clear ih hb R
    simp only [reedpipelaw16_NoiseLoud.l0]
    rw [if_pos b1, if_pos b2, if_pos b3, e]
    generalize rd l (i : Int) = v at *
    have w1 : wrap64 (v * v) = v * v := by unfold wrap64; omega
    have t1 : Int.tdiv (v * v) 256 = v * v / 256 := Int.tdiv_eq_ediv_of_nonneg hq0
    have w2 : wrap64 (v * v / 256) = v * v / 256 := by unfold wrap64; omega
    have w3 : wrap64 (lsum (l.take i) + v * v / 256) = lsum (l.take i) + v * v / 256 := by unfold wrap64; omega
    rw [if_neg (by omega), if_neg (by omega), w1, t1, w2, w3]
    by_cases hs : lsome (l.take i) = true
    · rw [if_pos hs]
      rw [hs, Bool.true_or] at hn
      exact hn
    · rw [if_neg hs]
      rw [Bool.eq_false_iff.mpr hs, Bool.false_or] at hn
      exact hn

theorem lsum_map (f : Int → Int) (l : List Int) : 256 * lsum (l.map f) ≤ sm (fun v => f v * f v) l ∧ sm (fun v => f v * f v) l ≤ 256 * lsum (l.map f) + 255 * l.length := by
  induction l with
  | nil => simp [lsum, sm]
  | cons v l ih =>
    simp only [List.map_cons, lsum, sm, List.length_cons]
    generalize f v * f v = q
    omega

theorem lsome_nil (l : List Int) (h : ∀ v ∈ l, v = 0) : lsome l = false := by
  induction l with
  | nil => rfl
  | cons v l ih =>
    simp only [lsome]
    rw [ih (fun u hu => h u (List.mem_cons_of_mem _ hu)), h v (List.mem_cons_self ..)]
    rfl

theorem loud_all (s step : Int) (m : Nat) (hm : m ≤ 256) (r : Nat) (hr : m ≤ r * r) : loudEnd m (ln 1 (mn step 255)) (lsum (bandl s step m)) r (lsome (bandl s step m)) := by
  obtain ⟨a0, a1⟩ := one_bd step
  have hq := draws_q s m hm
  have hq0 := ssq_nonneg (draws m s)
  obtain ⟨d0, d1, d2⟩ := isq_spec (ssq (draws m s) * 65536) (by omega) (by omega)
  have hlen := draws_length m s
  have hb : bandl s step m = (draws m s).map (nl (ln 1 (mn step 255)) (isq (ssq (draws m s) * 65536))) := rfl
  rw [hb]
  have hr' : ((draws m s).length : Int) ≤ (r : Int) * r := by rw [hlen]; exact_mod_cast hr
  obtain ⟨e1, e2⟩ := lsum_map (nl (ln 1 (mn step 255)) (isq (ssq (draws m s) * 65536))) (draws m s)
  rw [hlen] at e2
  generalize isq (ssq (draws m s) * 65536) = d at *
  generalize ln 1 (mn step 255) = a at *
  by_cases hd : 0 < d
  · have hd2 : 256 ≤ d := by
      have hs1 : 1 ≤ ssq (draws m s) := by
        rcases Int.lt_or_le 0 (ssq (draws m s)) with h | h
        · omega
        · have hz : ssq (draws m s) = 0 := by omega
          rw [hz] at d1
          have := Int.mul_pos hd hd
          omega
      rcases Int.lt_or_le d 256 with h | h
      · have := sq_le (a := d + 1) (b := 256) (by omega) (by omega); omega
      · exact h
    have up := far_ok' a d r _ a0 (by omega) hd2 (loud_up a d r (draws m s) a0 (by omega) hd hr' (by omega))
    refine ⟨by omega, fun _ => ?_⟩
    by_cases hn : a / 16 - a / 1600 - (r : Int) - 2 < 0
    · exact .inl hn
    · right
      have dn := near_ok a r _ (by omega) (by omega) a0 (loud_down a d r (draws m s) a0 (by omega) hd hr' (by omega) (by omega))
      omega
  · have hz : ∀ v, nl a d v = 0 := fun v => by unfold nl; rw [if_neg hd]
    have hs : sm (fun v => nl a d v * nl a d v) (draws m s) = 0 := by
      have := sm_congr (fun v => nl a d v * nl a d v) (fun _ => 0) (draws m s) (fun v _ => by rw [hz v]; rfl)
      rw [this, sm_const]; omega
    have hso : lsome ((draws m s).map (nl a d)) = false := lsome_nil _ (fun v hv => by
      obtain ⟨u, _, rfl⟩ := List.mem_map.mp hv
      exact hz u)
    rw [hs] at e1
    rw [hso]
    refine ⟨?_, fun h => by cases h⟩
    have := sq_nonneg (a / 16 + a / 1600 + (r : Int) + 2)
    omega

theorem band_mem (s step : Int) (m : Nat) (hm : m ≤ 256) : ∀ v ∈ bandl s step m, -268435455 ≤ v ∧ v ≤ 268435455 := by
  intro v hv
  obtain ⟨i, hi, rfl⟩ := List.mem_iff_getElem.mp hv
  rw [bandl_length] at hi
  have := band_bd s step m i hm hi
  unfold rd at this
  rw [Int.toNat_natCast, List.getD_eq_getElem?_getD, List.getElem?_eq_getElem (by rw [bandl_length]; exact hi)] at this
  exact this

theorem NoiseLoud : reedpipelaw16_NoiseLoud.Pure := by
  intro s step many hs _ _
  have hs := seed_wf hs
  refine ⟨400, ?_⟩
  unfold reedpipelaw16_NoiseLoud.f
  rw [alive16 400 (by omega)]
  simp only [Option.bind_some]
  by_cases h1 : step < 0 ∨ 511 < step
  · rw [band_arg hs h1]
    simp only [Option.bind_some]
    rw [if_neg (by decide), if_pos trivial, if_pos (by decide)]
    repeat' split
    all_goals first | rfl | (rw [decide_eq_true (by omega)])
  · by_cases hm : many < 0 ∨ 256 < many
    · rw [band_many hs h1 hm]
      simp only [Option.bind_some]
      rw [if_neg (by decide), if_pos trivial, if_pos (by decide)]
      repeat' split
      all_goals first | rfl | (rw [decide_eq_true (by omega)])
    · rw [band_ok hs h1 hm]
      obtain ⟨m, rfl⟩ := Int.eq_ofNat_of_zero_le (show 0 ≤ many by omega)
      rw [Int.toNat_natCast]
      have hm2 : m ≤ 256 := by omega
      simp only [Option.bind_some, ↓reduceIte]
      have hmn : 0 ≤ mn step 255 ∧ mn step 255 ≤ 255 := by unfold mn; split <;> omega
      have l1 : power_Line.f 1 (mn step 255) = some (ln 1 (mn step 255), 0) := by unfold power_Line.f; rw [if_pos ⟨by omega, by omega, hmn.1, hmn.2⟩]
      rw [l1]
      simp only [Option.bind_some, ↓reduceIte]
      have hl := bandl_length s step m
      rw [show (((bandl s step m).length : Int) != (m : Int)) = false from by rw [hl]; exact bne_self_eq_false _]
      obtain ⟨r, r0, r1, r2⟩ := root_up m hm2
      have hend := loud_all s step m hm2 r r1
      obtain ⟨a0, a1⟩ := one_bd step
      have hmem := band_mem s step m hm2
      obtain ⟨s0, s1⟩ := lsum_bd (bandl s step m) hmem
      rw [hl] at s1
      have R := root_loop' m (ln 1 (mn step 255)) (lsum (bandl s step m)) (lsome (bandl s step m)) r r0 (fun j hj => by exact_mod_cast r2 j hj) (by exact_mod_cast r1) (by omega) (by omega) a0 a1 s0 (by omega) hend r 17 0 (Nat.zero_le _) (by omega) (by omega)
      have L := loud_loop m (ln 1 (mn step 255)) (bandl s step m) 17 (by rw [hl]) (by omega) hmem R _ 399 0 (Nat.zero_le _) rfl (by omega)
      simp only [reedpipelaw16_NoiseLoud.j0, Bool.false_eq_true, ↓reduceIte]
      exact L

end Go.Proofs.Ythlodaeodakomac.Pure
