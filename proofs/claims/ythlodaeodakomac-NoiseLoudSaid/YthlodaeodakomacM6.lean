/-
  Noise is as loud as its step says.
-/
import Derived.Test.YthlodaeodakomacM5
namespace Go.Proofs.Ythlodaeodakomac

/-- What a line is off, twice the root as much. -/
def offb (a d v : Int) : Int := 2 * d * nl a d v - 2 * (256 * v) * a

theorem sq_abs {x d : Int} (h1 : -d ≤ x) (h2 : x ≤ d) : x * x ≤ d * d := by
  rcases Int.le_total 0 x with h | h
  · exact Int.mul_le_mul h2 h2 h (by omega)
  · have := Int.mul_le_mul (a := -x) (b := -x) (c := d) (d := d) (by omega) (by omega) (by omega) (by omega)
    rwa [Int.neg_mul_neg] at this

/-- The sum of squares of lines, told by draws and by what they are off. -/
theorem loud_sum (a d : Int) (l : List Int) :
    4 * (d * d) * sm (fun v => nl a d v * nl a d v) l = 4 * (a * a) * sm (fun v => 256 * v * (256 * v)) l + 4 * a * sm (fun v => 256 * v * offb a d v) l + sm (fun v => offb a d v * offb a d v) l := by
  rw [← sm_mul, ← sm_mul, ← sm_mul, ← sm_add, ← sm_add]
  apply sm_congr
  intro v _
  have e : 2 * d * nl a d v = 2 * a * (256 * v) + offb a d v := by
    unfold offb
    rw [Int.mul_assoc 2 a (256 * v), Int.mul_assoc 2 (256 * v) a, Int.mul_comm (256 * v) a]; omega
  have e1 : 4 * (d * d) * (nl a d v * nl a d v) = 2 * d * nl a d v * (2 * d * nl a d v) := by
    rw [mul_four (2 * d) (nl a d v) (2 * d) (nl a d v), mul_four 2 d 2 d]; rfl
  rw [e1, e]
  generalize 256 * v = u
  generalize offb a d v = x
  rw [Int.add_mul, Int.mul_add, Int.mul_add, mul_four (2 * a) u (2 * a) u, mul_four 2 a 2 a]
  have e2 : 2 * a * u * x = 2 * (a * (u * x)) := by rw [Int.mul_assoc 2 a u, Int.mul_assoc 2 (a * u) x, Int.mul_assoc a u x]
  have e3 : x * (2 * a * u) = 2 * (a * (u * x)) := by rw [Int.mul_comm x]; exact e2
  have e4 : 4 * a * (u * x) = 4 * (a * (u * x)) := Int.mul_assoc ..
  have e5 : (2 : Int) * 2 * (a * a) * (u * u) = 4 * (a * a) * (u * u) := rfl
  omega

theorem sum_u (l : List Int) : sm (fun v => 256 * v * (256 * v)) l = 65536 * ssq l := by
  rw [ssq_sm, ← sm_mul]
  apply sm_congr
  intro v _
  rw [mul_four 256 v 256 v]; rfl

theorem sum_off (a d : Int) (hd : 0 < d) (l : List Int) (root : Int) (hm : (l.length : Int) ≤ root * root) : sm (fun v => offb a d v * offb a d v) l ≤ root * d * (root * d) := by
  have h1 := sm_le (fun v => offb a d v * offb a d v) (fun _ => d * d) l (fun v _ => by
    have h := nl_spec a d v hd
    exact sq_abs (x := offb a d v) (by unfold offb; omega) (by unfold offb; omega))
  rw [sm_const] at h1
  have h2 := Int.mul_le_mul_of_nonneg_right hm (sq_nonneg d)
  rw [mul_four root d root d]
  omega

theorem loud_up (a d root : Int) (l : List Int) (ha : 0 ≤ a) (hr : 0 ≤ root) (hd : 0 < d) (hm : (l.length : Int) ≤ root * root) (hS : 65536 * ssq l ≤ (d + 1) * (d + 1)) :
    4 * (d * d) * sm (fun v => nl a d v * nl a d v) l ≤ (2 * a * (d + 1) + root * d) * (2 * a * (d + 1) + root * d) := by
  rw [loud_sum, sum_u]
  have hE := sum_off a d hd l root hm
  have hE0 := sm_nonneg (fun v => offb a d v * offb a d v) (fun v => sq_nonneg _) l
  have hC := cauchy (fun v => 256 * v) (fun v => offb a d v) l
  rw [sum_u] at hC
  have hq := ssq_nonneg l
  have hrd : 0 ≤ root * d := Int.mul_nonneg hr (by omega)
  generalize sm (fun v => 256 * v * offb a d v) l = C at *
  generalize sm (fun v => offb a d v * offb a d v) l = E at *
  generalize root * d = R at *
  generalize 65536 * ssq l = S at *
  have hC2 : C ≤ (d + 1) * R := by
    apply le_of_sq (Int.mul_nonneg (by omega) hrd)
    rw [mul_four (d + 1) R (d + 1) R]
    have h1 : S * E ≤ (d + 1) * (d + 1) * E := Int.mul_le_mul_of_nonneg_right hS hE0
    have h2 : (d + 1) * (d + 1) * E ≤ (d + 1) * (d + 1) * (R * R) := Int.mul_le_mul_of_nonneg_left hE (sq_nonneg _)
    omega
  have e : (2 * a * (d + 1) + R) * (2 * a * (d + 1) + R) = 4 * (a * a) * ((d + 1) * (d + 1)) + 4 * a * ((d + 1) * R) + R * R := by
    generalize d + 1 = D
    rw [Int.add_mul, Int.mul_add, Int.mul_add, mul_four (2 * a) D (2 * a) D, mul_four 2 a 2 a]
    have e2 : 2 * a * D * R = 2 * (a * (D * R)) := by rw [Int.mul_assoc 2 a D, Int.mul_assoc 2 (a * D) R, Int.mul_assoc a D R]
    have e3 : R * (2 * a * D) = 2 * (a * (D * R)) := by rw [Int.mul_comm R]; exact e2
    have e4 : 4 * a * (D * R) = 4 * (a * (D * R)) := Int.mul_assoc ..
    have e5 : (2 : Int) * 2 * (a * a) * (D * D) = 4 * (a * a) * (D * D) := rfl
    omega
  rw [e]
  have k1 := Int.mul_le_mul_of_nonneg_left hS (show 0 ≤ 4 * (a * a) by have := sq_nonneg a; omega)
  have k2 := Int.mul_le_mul_of_nonneg_left hC2 (show 0 ≤ 4 * a by omega)
  omega

theorem loud_down (a d root : Int) (l : List Int) (_ha : 0 ≤ a) (hr : 0 ≤ root) (hd : 0 < d) (hm : (l.length : Int) ≤ root * root) (hS : d * d ≤ 65536 * ssq l) (hpos : root ≤ 2 * a) :
    (2 * a - root) * (2 * a - root) ≤ 4 * sm (fun v => nl a d v * nl a d v) l := by
  rcases Int.lt_or_le (4 * sm (fun v => nl a d v * nl a d v) l) ((2 * a - root) * (2 * a - root)) with h | h
  · exfalso
    have hE := sum_off a d hd l root hm
    have hE0 := sm_nonneg (fun v => offb a d v * offb a d v) (fun v => sq_nonneg _) l
    have hX0 := sm_nonneg (fun v => nl a d v * nl a d v) (fun v => sq_nonneg _) l
    have hC := cauchy (fun v => 2 * d * nl a d v) (fun v => -offb a d v) l
    have e1 : sm (fun v => 2 * d * nl a d v * (2 * d * nl a d v)) l = 4 * (d * d) * sm (fun v => nl a d v * nl a d v) l := by
      rw [← sm_mul]
      apply sm_congr
      intro v _
      rw [mul_four (2 * d) (nl a d v) (2 * d) (nl a d v), mul_four 2 d 2 d]; rfl
    have e2 : sm (fun v => -offb a d v * -offb a d v) l = sm (fun v => offb a d v * offb a d v) l := sm_congr _ _ _ (fun v _ => Int.neg_mul_neg _ _)
    -- 4 a a S = Q + 2 Σ Z (-E) + Σ E E
    have e3 : 4 * (a * a) * sm (fun v => 256 * v * (256 * v)) l = 4 * (d * d) * sm (fun v => nl a d v * nl a d v) l + 2 * sm (fun v => 2 * d * nl a d v * -offb a d v) l + sm (fun v => offb a d v * offb a d v) l := by
      rw [← e1, ← sm_mul, ← sm_mul, ← sm_add, ← sm_add]
      apply sm_congr
      intro v _
      have e : 2 * d * nl a d v = 2 * a * (256 * v) + offb a d v := by
        unfold offb
        rw [Int.mul_assoc 2 a (256 * v), Int.mul_assoc 2 (256 * v) a, Int.mul_comm (256 * v) a]; omega
      have e' : 4 * (a * a) * (256 * v * (256 * v)) = 2 * a * (256 * v) * (2 * a * (256 * v)) := by
        rw [mul_four (2 * a) (256 * v) (2 * a) (256 * v), mul_four 2 a 2 a]; rfl
      rw [e', e]
      generalize 2 * a * (256 * v) = y
      generalize offb a d v = x
      rw [Int.add_mul, Int.mul_add, Int.mul_add, Int.add_mul, Int.mul_neg, Int.mul_neg, Int.mul_comm x y]
      omega
    rw [e1, e2] at hC
    rw [sum_u] at e3
    generalize sm (fun v => 2 * d * nl a d v * -offb a d v) l = C at *
    generalize sm (fun v => offb a d v * offb a d v) l = E at *
    generalize sm (fun v => nl a d v * nl a d v) l = X at *
    have hT : 0 ≤ 2 * a - root := by omega
    have hrd : 0 ≤ root * d := Int.mul_nonneg hr (by omega)
    have hTd : 0 ≤ (2 * a - root) * d := Int.mul_nonneg hT (by omega)
    have hdd : 0 < d * d := Int.mul_pos hd hd
    have hQ : 4 * (d * d) * X < (2 * a - root) * d * ((2 * a - root) * d) := by
      have q := Int.mul_lt_mul_of_pos_left h hdd
      rw [mul_four (2 * a - root) d (2 * a - root) d, Int.mul_comm ((2 * a - root) * (2 * a - root)) (d * d)]
      have e : 4 * (d * d) * X = d * d * (4 * X) := by rw [Int.mul_comm 4 (d * d), Int.mul_assoc]
      omega
    have hQ0 : 0 ≤ 4 * (d * d) * X := Int.mul_nonneg (by omega) hX0
    have hsum : (2 * a - root) * d + root * d = 2 * a * d := by rw [← Int.add_mul]; congr 1; omega
    have h4 : 4 * (a * a) * (d * d) ≤ 4 * (a * a) * (65536 * ssq l) := Int.mul_le_mul_of_nonneg_left hS (by have := sq_nonneg a; omega)
    have e4 : 4 * (a * a) * (d * d) = ((2 * a - root) * d + root * d) * ((2 * a - root) * d + root * d) := by
      rw [hsum, mul_four (2 * a) d (2 * a) d, mul_four 2 a 2 a]; rfl
    generalize (2 * a - root) * d = T at *
    generalize root * d = R at *
    generalize 4 * (d * d) * X = Q at *
    have hC2 : C ≤ T * R := by
      apply le_of_sq (Int.mul_nonneg hTd hrd)
      rw [mul_four T R T R]
      have h1 : Q * E ≤ T * T * E := Int.mul_le_mul_of_nonneg_right (by omega) hE0
      have h2 : T * T * E ≤ T * T * (R * R) := Int.mul_le_mul_of_nonneg_left hE (sq_nonneg _)
      omega
    have e5 : (T + R) * (T + R) = T * T + 2 * (T * R) + R * R := by
      rw [Int.add_mul, Int.mul_add, Int.mul_add, Int.mul_comm R T]; omega
    omega
  · exact h

/-- The greatest that it may be. -/
theorem far_ok' (a d root X : Int) (ha : 0 ≤ a) (hr : 0 ≤ root) (hd : 256 ≤ d) (h : 4 * (d * d) * X ≤ (2 * a * (d + 1) + root * d) * (2 * a * (d + 1) + root * d)) :
    X ≤ 256 * ((a / 16 + a / 1600 + root + 2) * (a / 16 + a / 1600 + root + 2)) := by
  generalize hf : a / 16 + a / 1600 + root + 2 = f
  have h1 : 101 * a + 1600 * root ≤ 1600 * f := by omega
  have h0 : 0 ≤ f := by omega
  have hle : 2 * a * (d + 1) + root * d ≤ 32 * f * d := by
    have k1 : (101 * a + 1600 * root) * d ≤ 1600 * f * d := Int.mul_le_mul_of_nonneg_right h1 (by omega)
    rw [Int.add_mul, Int.mul_assoc 101, Int.mul_assoc 1600 root d, Int.mul_assoc 1600 f d] at k1
    have k2 : a * 256 ≤ a * d := Int.mul_le_mul_of_nonneg_left hd ha
    have k3 : 0 ≤ root * d := Int.mul_nonneg hr (by omega)
    rw [Int.mul_add, Int.mul_assoc 2 a d, Int.mul_assoc 32 f d]
    omega
  have hsq := Int.mul_le_mul hle hle (by
    have := Int.mul_nonneg (show 0 ≤ 2 * a by omega) (show 0 ≤ d + 1 by omega)
    have := Int.mul_nonneg hr (show 0 ≤ d by omega)
    omega) (Int.mul_nonneg (by omega) (by omega))
  rw [mul_four (32 * f) d (32 * f) d, mul_four 32 f 32 f] at hsq
  have hdd : 0 < d * d := Int.mul_pos (by omega) (by omega)
  have e : 4 * (d * d) * X = d * d * (4 * X) := by rw [Int.mul_comm 4 (d * d), Int.mul_assoc]
  have e2 : (32 : Int) * 32 * (f * f) * (d * d) = d * d * (1024 * (f * f)) := Int.mul_comm ..
  have : 4 * X ≤ 1024 * (f * f) := Int.le_of_mul_le_mul_left (a := d * d) (by omega) hdd
  omega

/-- The least. -/
theorem near_ok (a root X : Int) (hr : 0 ≤ root) (hn : 0 ≤ a / 16 - a / 1600 - root - 2) (ha : 0 ≤ a) (h : (2 * a - root) * (2 * a - root) ≤ 4 * X) :
    256 * ((a / 16 - a / 1600 - root - 2) * (a / 16 - a / 1600 - root - 2)) ≤ X := by
  generalize hf : a / 16 - a / 1600 - root - 2 = f at *
  have h1 : 32 * f ≤ 2 * a - root := by omega
  have hsq := Int.mul_le_mul h1 h1 (by omega) (by omega)
  rw [mul_four 32 f 32 f] at hsq
  omega
end Go.Proofs.Ythlodaeodakomac
