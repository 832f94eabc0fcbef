/-
  Draws of noise: plain words.
-/
import Derived.WalkKit
namespace Go.Proofs.Ytochlpbgllgmdab

/-- The number behind one. -/
def nxt (s : Int) : Int := (s * 1664525 + 1013904223) % 4294967296
/-- A number's draw. -/
def drw (s : Int) : Int := s / 65536 - 32768
/-- The number so many behind one. -/
def sd : Nat → Int → Int
  | 0, s => s
  | k + 1, s => nxt (sd k s)
/-- So many draws. -/
def draws (n : Nat) (s : Int) : List Int := (List.range n).map fun i => drw (sd (i + 1) s)

theorem nxt_bd (s : Int) : 0 ≤ nxt s ∧ nxt s < 4294967296 := by unfold nxt; omega
theorem sd_bd (k : Nat) (s : Int) (h0 : 0 ≤ s) (h1 : s < 4294967296) : 0 ≤ sd k s ∧ sd k s < 4294967296 := by
  cases k with
  | zero => exact ⟨h0, h1⟩
  | succ k => exact nxt_bd _
theorem draws_length (n : Nat) (s : Int) : (draws n s).length = n := by unfold draws; simp
theorem draws_succ (n : Nat) (s : Int) : draws (n + 1) s = draws n s ++ [drw (sd (n + 1) s)] := by unfold draws; rw [List.range_succ]; simp
theorem drw_bd {s : Int} (h0 : 0 ≤ s) (h1 : s < 4294967296) : -32768 ≤ drw s ∧ drw s ≤ 32767 := by unfold drw; omega
theorem draws_set (n k : Nat) (s : Int) (h : k < n) : (draws k s ++ List.replicate (n - k) 0).set k (drw (sd (k + 1) s)) = draws (k + 1) s ++ List.replicate (n - (k + 1)) 0 := by
  obtain ⟨d, rfl⟩ := Nat.exists_eq_add_of_lt h
  rw [show k + d + 1 - k = d + 1 from by omega, show k + d + 1 - (k + 1) = d from by omega, List.replicate_succ]
  rw [List.set_append_right _ _ (by rw [draws_length]; exact Nat.le_refl _), draws_length, Nat.sub_self, List.set_cons_zero, draws_succ]
  simp

/-- The sum of squares. -/
def ssq : List Int → Int
  | [] => 0
  | v :: l => v * v + ssq l
theorem ssq_append (l m : List Int) : ssq (l ++ m) = ssq l + ssq m := by
  induction l with
  | nil => simp [ssq]
  | cons v l ih => simp only [List.cons_append, ssq, ih]; omega
theorem ssq_nonneg (l : List Int) : 0 ≤ ssq l := by
  induction l with
  | nil => exact Int.le_refl _
  | cons v l ih =>
    have : 0 ≤ v * v := by
      rcases Int.le_total 0 v with h | h
      · exact Int.mul_nonneg h h
      · exact Int.mul_nonneg_of_nonpos_of_nonpos h h
    simp only [ssq]; omega
/-- A line of noise: v its draw, a the line of 1, d the root. -/
def nl (a d v : Int) : Int := if 0 < d then (2 * (v * a * 256) + d) / (2 * d) else 0

theorem draws_mem (n : Nat) (s : Int) : ∀ v ∈ draws n s, -32768 ≤ v ∧ v ≤ 32767 := by
  intro v hv
  unfold draws at hv
  simp only [List.mem_map] at hv
  obtain ⟨i, _, rfl⟩ := hv
  have := nxt_bd (sd i s)
  exact drw_bd this.1 this.2
theorem sq_bd {v : Int} (h0 : -32768 ≤ v) (h1 : v ≤ 32767) : 0 ≤ v * v ∧ v * v ≤ 1073741824 := by
  rcases Int.le_total 0 v with h | h
  · exact ⟨Int.mul_nonneg h h, by have := Int.mul_le_mul h1 h1 h (by omega); omega⟩
  · exact ⟨Int.mul_nonneg_of_nonpos_of_nonpos h h, by
      have := Int.mul_le_mul (a := -v) (b := -v) (c := 32768) (d := 32768) (by omega) (by omega) (by omega) (by omega)
      rw [Int.neg_mul_neg] at this; omega⟩
theorem ssq_bd (l : List Int) (h : ∀ v ∈ l, -32768 ≤ v ∧ v ≤ 32767) : ssq l ≤ l.length * 1073741824 := by
  induction l with
  | nil => simp [ssq]
  | cons v l ih =>
    have h1 := ih (fun u hu => h u (List.mem_cons_of_mem _ hu))
    have h2 := h v (List.mem_cons_self ..)
    have h3 := sq_bd h2.1 h2.2
    simp only [ssq, List.length_cons]
    omega

theorem ssq_take (l : List Int) (k : Nat) (h : k < l.length) : ssq (l.take (k + 1)) = ssq (l.take k) + l.getD k 0 * l.getD k 0 := by
  rw [List.take_succ_eq_append_getElem h, ssq_append]
  have e : l.getD k 0 = l[k] := by rw [List.getD_eq_getElem?_getD, List.getElem?_eq_getElem h]; rfl
  rw [e]
  simp [ssq]

/-- The first k are told, the others are as they were. -/
def mix (f : Int → Int) (l : List Int) (k : Nat) : List Int := (l.take k).map f ++ l.drop k
theorem mix_zero (f : Int → Int) (l : List Int) : mix f l 0 = l := by simp [mix]
theorem mix_all (f : Int → Int) (l : List Int) : mix f l l.length = l.map f := by simp [mix]
theorem mix_length (f : Int → Int) (l : List Int) (k : Nat) : (mix f l k).length = l.length := by
  simp [mix]; omega
theorem mix_get (f : Int → Int) (l : List Int) (k : Nat) (h : k < l.length) : (mix f l k).getD k 0 = l.getD k 0 := by
  unfold mix
  rw [List.getD_eq_getElem?_getD, List.getElem?_append_right (by simp; omega), List.getD_eq_getElem?_getD]
  simp [Nat.min_eq_left (Nat.le_of_lt h)]
theorem mix_set (f : Int → Int) (l : List Int) (k : Nat) (h : k < l.length) (y : Int) (hy : y = f (l.getD k 0)) : (mix f l k).set k y = mix f l (k + 1) := by
  have e : l.getD k 0 = l[k] := by rw [List.getD_eq_getElem?_getD, List.getElem?_eq_getElem h]; rfl
  have hl : ((l.take k).map f).length = k := by simp; omega
  unfold mix
  rw [List.set_append_right _ _ (by omega), hl, Nat.sub_self, List.drop_eq_getElem_cons h, List.set_cons_zero, List.take_succ_eq_append_getElem h, hy, e, List.map_append]
  simp only [List.map_cons, List.map_nil, List.append_assoc, List.cons_append, List.nil_append]
theorem mix_set2 (f : Int → Int) (l : List Int) (k : Nat) (h : k < l.length) (y z : Int) (hy : y = f (l.getD k 0)) : ((mix f l k).set k z).set k y = mix f l (k + 1) := by
  rw [List.set_set, mix_set f l k h y hy]
end Go.Proofs.Ytochlpbgllgmdab
