/-
  Plain facts on noise: how great a line is, and how loud all are together.
-/
import Derived.Test.YthlodaeodakomacM3
import Derived.Test.YthlodaeodakomacMn
namespace Go.Proofs.Ythlodaeodakomac

/-- A sum over a list. -/
def sm (f : Int → Int) : List Int → Int
  | [] => 0
  | v :: l => f v + sm f l

theorem sm_nonneg (f : Int → Int) (h : ∀ v, 0 ≤ f v) (l : List Int) : 0 ≤ sm f l := by
  induction l with
  | nil => exact Int.le_refl _
  | cons v l ih => have := h v; simp only [sm]; omega

theorem sm_le (f g : Int → Int) (l : List Int) (h : ∀ v ∈ l, f v ≤ g v) : sm f l ≤ sm g l := by
  induction l with
  | nil => exact Int.le_refl _
  | cons v l ih =>
    have h1 := ih (fun u hu => h u (List.mem_cons_of_mem _ hu))
    have h2 := h v (List.mem_cons_self ..)
    simp only [sm]; omega

theorem sm_const (c : Int) (l : List Int) : sm (fun _ => c) l = l.length * c := by
  induction l with
  | nil => simp [sm]
  | cons v l ih =>
    simp only [sm, ih, List.length_cons]
    rw [Int.natCast_add, Int.add_mul]; omega

theorem sm_congr (f g : Int → Int) (l : List Int) (h : ∀ v ∈ l, f v = g v) : sm f l = sm g l := by
  induction l with
  | nil => rfl
  | cons v l ih =>
    simp only [sm]
    rw [ih (fun u hu => h u (List.mem_cons_of_mem _ hu)), h v (List.mem_cons_self ..)]

theorem sm_mul (c : Int) (f : Int → Int) (l : List Int) : sm (fun v => c * f v) l = c * sm f l := by
  induction l with
  | nil => simp [sm]
  | cons v l ih => simp only [sm, ih]; rw [Int.mul_add]

theorem sm_add (f g : Int → Int) (l : List Int) : sm (fun v => f v + g v) l = sm f l + sm g l := by
  induction l with
  | nil => rfl
  | cons v l ih => simp only [sm, ih]; omega

theorem sq_nonneg (x : Int) : 0 ≤ x * x := by
  rcases Int.le_total 0 x with h | h
  · exact Int.mul_nonneg h h
  · exact Int.mul_nonneg_of_nonpos_of_nonpos h h

/-- A square that is at most another one's, of a number from 0 on. -/
theorem le_of_sq {x y : Int} (hy : 0 ≤ y) (h : x * x ≤ y * y) : x ≤ y := by
  rcases Int.lt_or_le y x with h' | h'
  · have := sq_lt hy h'; omega
  · exact h'

theorem mul_four (a b c d : Int) : a * b * (c * d) = a * c * (b * d) := by rw [Int.mul_assoc, Int.mul_left_comm b c d, ← Int.mul_assoc]

/-- Cauchy's inequality. -/
theorem cauchy (u e : Int → Int) (l : List Int) : sm (fun v => u v * e v) l * sm (fun v => u v * e v) l ≤ sm (fun v => u v * u v) l * sm (fun v => e v * e v) l := by
  induction l with
  | nil => simp [sm]
  | cons v l ih =>
    simp only [sm]
    have hB := sm_nonneg (fun v => u v * u v) (fun v => sq_nonneg (u v)) l
    have hC := sm_nonneg (fun v => e v * e v) (fun v => sq_nonneg (e v)) l
    generalize sm (fun v => u v * e v) l = A at *
    generalize sm (fun v => u v * u v) l = B at *
    generalize sm (fun v => e v * e v) l = C at *
    generalize u v = x
    generalize e v = y
    -- 2 A x y ≤ B y y + C x x
    have key : 2 * (A * (x * y)) ≤ B * (y * y) + C * (x * x) := by
      apply le_of_sq
      · have := Int.mul_nonneg hB (sq_nonneg y)
        have := Int.mul_nonneg hC (sq_nonneg x)
        omega
      · have h1 : A * A * ((x * y) * (x * y)) ≤ B * C * ((x * y) * (x * y)) := Int.mul_le_mul_of_nonneg_right ih (sq_nonneg _)
        have h2 := sq_nonneg (B * (y * y) - C * (x * x))
        have e1 : 2 * (A * (x * y)) * (2 * (A * (x * y))) = 4 * (A * A * ((x * y) * (x * y))) := by
          rw [mul_four 2 (A * (x * y)) 2 (A * (x * y)), mul_four A (x * y) A (x * y)]; rfl
        have e2 : (B * (y * y) + C * (x * x)) * (B * (y * y) + C * (x * x)) = (B * (y * y) - C * (x * x)) * (B * (y * y) - C * (x * x)) + 4 * (B * C * ((x * y) * (x * y))) := by
          rw [Int.add_mul, Int.mul_add, Int.mul_add, Int.sub_mul, Int.mul_sub, Int.mul_sub]
          have e3 : B * (y * y) * (C * (x * x)) = B * C * ((x * y) * (x * y)) := by rw [mul_four B (y * y) C (x * x), mul_four y y x x, Int.mul_comm y x]
          have e4 : C * (x * x) * (B * (y * y)) = B * C * ((x * y) * (x * y)) := by rw [mul_four C (x * x) B (y * y), mul_four x x y y, Int.mul_comm C B]
          omega
        omega
    have e1 : (x * y + A) * (x * y + A) = x * y * (x * y) + 2 * (A * (x * y)) + A * A := by
      rw [Int.add_mul, Int.mul_add, Int.mul_add, Int.mul_comm (x * y) A]; omega
    have e2 : (x * x + B) * (y * y + C) = x * y * (x * y) + C * (x * x) + B * (y * y) + B * C := by
      rw [Int.add_mul, Int.mul_add, Int.mul_add, Int.mul_comm (x * x) C]
      have := mul_four x x y y
      omega
    omega

theorem ssq_sm (l : List Int) : ssq l = sm (fun v => v * v) l := by
  induction l with
  | nil => rfl
  | cons v l ih => simp only [ssq, sm, ih]

/-- What is rounded off. -/
theorem nl_spec (a d v : Int) (hd : 0 < d) : -d < 2 * d * nl a d v - 2 * (256 * v) * a ∧ 2 * d * nl a d v - 2 * (256 * v) * a ≤ d := by
  unfold nl
  rw [if_pos hd]
  have h1 := Int.mul_ediv_add_emod (2 * (v * a * 256) + d) (2 * d)
  have h2 := Int.emod_nonneg (2 * (v * a * 256) + d) (show (2 * d : Int) ≠ 0 by omega)
  have h3 := Int.emod_lt_of_pos (2 * (v * a * 256) + d) (show (0 : Int) < 2 * d by omega)
  have e : 2 * (256 * v) * a = 2 * (v * a * 256) := by rw [Int.mul_comm (v * a) 256, ← Int.mul_assoc 256 v a, ← Int.mul_assoc 2 (256 * v) a]
  omega

/-- A draw's part of the root. -/
theorem draw_le_root (l : List Int) (v : Int) (hv : v ∈ l) (hq : ssq l ≤ 274877906944) : 256 * v ≤ isq (ssq l * 65536) ∧ -(256 * v) ≤ isq (ssq l * 65536) := by
  have h0 := ssq_nonneg l
  obtain ⟨d0, d1, d2⟩ := isq_spec (ssq l * 65536) (by omega) (by omega)
  have hle : v * v ≤ ssq l := by
    clear hq h0 d0 d1 d2
    induction l with
    | nil => cases hv
    | cons u l ih =>
      simp only [ssq]
      rcases List.mem_cons.mp hv with rfl | h
      · have := ssq_nonneg l; omega
      · have := ih h; have := sq_nonneg u; omega
  generalize isq (ssq l * 65536) = d at *
  have e : 256 * v * (256 * v) = 65536 * (v * v) := by rw [Int.mul_assoc, Int.mul_left_comm v 256 v]; omega
  constructor
  · rcases Int.lt_or_le d (256 * v) with h | h
    · have := sq_le (a := d + 1) (b := 256 * v) (by omega) (by omega); omega
    · exact h
  · rcases Int.lt_or_le d (-(256 * v)) with h | h
    · have := sq_le (a := d + 1) (b := -(256 * v)) (by omega) (by omega)
      rw [Int.neg_mul_neg] at this; omega
    · exact h

/-- No line of noise is greater than the line of 1. -/
theorem nl_le (a d v : Int) (ha : 0 ≤ a) (h1 : 256 * v ≤ d) (h2 : -(256 * v) ≤ d) : -a ≤ nl a d v ∧ nl a d v ≤ a := by
  by_cases hd : 0 < d
  · obtain ⟨e1, e2⟩ := nl_spec a d v hd
    have p1 : 256 * v * a ≤ d * a := Int.mul_le_mul_of_nonneg_right h1 ha
    have p2 : -(256 * v) * a ≤ d * a := Int.mul_le_mul_of_nonneg_right h2 ha
    rw [Int.neg_mul] at p2
    have e : 2 * (256 * v) * a = 2 * (256 * v * a) := Int.mul_assoc ..
    have e3 : 2 * d * nl a d v = 2 * (d * nl a d v) := Int.mul_assoc ..
    constructor
    · rcases Int.lt_or_le (nl a d v) (-a) with h | h
      · have := Int.mul_le_mul_of_nonneg_left (show nl a d v ≤ -a - 1 by omega) (show 0 ≤ d by omega)
        rw [Int.mul_sub, Int.mul_neg] at this
        omega
      · exact h
    · rcases Int.lt_or_le a (nl a d v) with h | h
      · have := Int.mul_le_mul_of_nonneg_left (show a + 1 ≤ nl a d v by omega) (show 0 ≤ d by omega)
        rw [Int.mul_add] at this
        omega
      · exact h
  · unfold nl; rw [if_neg hd]; omega

/-- Four steps more double a line of noise, to 2. -/
theorem nl_doubles (a b d v : Int) (h1 : 256 * v ≤ d) (h2 : -(256 * v) ≤ d) (hab : -1 ≤ b - 2 * a ∧ b - 2 * a ≤ 1) : -2 ≤ nl b d v - 2 * nl a d v ∧ nl b d v - 2 * nl a d v ≤ 2 := by
  by_cases hd : 0 < d
  · obtain ⟨e1, e2⟩ := nl_spec a d v hd
    obtain ⟨f1, f2⟩ := nl_spec b d v hd
    have hN : -d ≤ 256 * v * (b - 2 * a) ∧ 256 * v * (b - 2 * a) ≤ d := by
      have hc : b - 2 * a = -1 ∨ b - 2 * a = 0 ∨ b - 2 * a = 1 := by omega
      rcases hc with hc | hc | hc <;> rw [hc] <;> omega
    have e : 2 * (256 * v) * b = 2 * (256 * v * (b - 2 * a)) + 2 * (2 * (256 * v) * a) := by
      rw [Int.mul_sub, Int.mul_assoc 2 (256 * v) b, Int.mul_assoc 2 (256 * v) a, Int.mul_left_comm (256 * v) 2 a]; omega
    have e3 : 2 * d * nl a d v = 2 * (d * nl a d v) := Int.mul_assoc ..
    have e4 : 2 * d * nl b d v = 2 * (d * nl b d v) := Int.mul_assoc ..
    generalize nl a d v = X at *
    generalize nl b d v = Y at *
    have e5 : d * (Y - 2 * X) = d * Y - 2 * (d * X) := by rw [Int.mul_sub, Int.mul_left_comm]
    generalize Y - 2 * X = t at *
    constructor
    · rcases Int.lt_or_le t (-2) with h | h
      · have := Int.mul_le_mul_of_nonneg_left (show t ≤ -3 by omega) (show 0 ≤ d by omega)
        omega
      · exact h
    · rcases Int.lt_or_le 2 t with h | h
      · have := Int.mul_le_mul_of_nonneg_left (show 3 ≤ t by omega) (show 0 ≤ d by omega)
        omega
      · exact h
  · unfold nl; rw [if_neg hd, if_neg hd]; omega

end Go.Proofs.Ythlodaeodakomac
