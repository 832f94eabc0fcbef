/-
  A list of lists, opened, with its lists' sizes.
-/
import Derived.Test.YtcfkkdjnalbnoaaRo
import Derived.SizedLaws
namespace Go.Proofs.Ytcfkkdjnalbnoaa
open Go.ChangeShapes Go.WideShapes Go.ChangeAt Go.Deep Go.Joins Go.RowKit Go.Proofs.YtcfkkdjnalbnoaaW.PrintWords Go.Proofs.YtcfkkdjnalbnoaaW.PrintLast

section
variable {H : Type} {enc : TypeId × Value → H} {W : World} {base : Nat} {held : Bool}

theorem weights_all {P : Program} {e : TypeId} {n : Nat} : ∀ {ds : List (DataW H)} {d : DataW H}, d ∈ ds → n ∈ d.weights P e → n ∈ DataW.weightsAll P e ds
  | [], _, h, _ => by cases h
  | a :: r, d, h, hn => by
    simp only [DataW.weightsAll, List.mem_append]
    rcases List.mem_cons.1 h with h | h
    · subst h; exact .inl hn
    · exact .inr (weights_all h hn)
theorem intBytes : Try.prog.bytesOf 3 = 8 := by kernel_rfl

theorem open_lls {fuel : Nat} {cs : List Value} {x : DataW H × List MemPlace} (h : DataW.trod enc Try.prog W base (fun _ => true) held fuel 25 cs = some x) (hw : ∀ n ∈ x.1.weights Try.prog 25, n ≤ reachBytes) :
    ∃ (A : Option Addr) (c : Nat) (l : List (List Int)), cs = [.slice A l.length c] ∧ l.length ≤ c ∧ Kd.C (Kd.slice 3 (Kd.int .i64)) W A l.length l ∧ ∀ r ∈ l, r.length ≤ 17592186043904 := by
  rcases open_int_rows Try.underlying25 Try.underlying22 Try.underlying3 rowCells intCells h with ⟨hcs, _⟩ | ⟨a, len, cap, A, L, C, Z, hcs, _, hl, hm, hx, hrow⟩
  · exact ⟨none, 0, [], hcs, Nat.le_refl _, ⟨rfl, by decide, fun h => absurd h (by decide)⟩, fun r hr => by cases hr⟩
  · have each : ∀ r, r < len → ∃ l : List Int, L r = l.length ∧ l.length ≤ C r ∧ Kd.C (Kd.int .i64) W (A r) l.length l := by
      intro r hr
      obtain ⟨_, r1, r2, r3, r4, r5, r6⟩ := hrow r (by omega)
      cases hA : A r with
      | none =>
        have hC := r5 hA
        have hz : Z r = [] := List.eq_nil_of_length_eq_zero (by omega)
        obtain ⟨l, e, hr, _, _, hc⟩ := ReadsInt.ofRowC (k := .i64) (w := W) (a := none) (len := 0) (cap := 0) (zs := []) (.inl ⟨rfl, rfl, rfl, rfl⟩)
        exact ⟨l, by omega, by omega, Kd.C_of_reads (d := (0 : Int)) (h1 := fun _ => rfl) hr⟩
      | some a' =>
        have h6 := (r6 a' hA).2
        obtain ⟨l, e, hr, _, _, hc⟩ := ReadsInt.ofRowC (k := .i64) (w := W) (a := some a') (len := L r) (cap := C r) (zs := Z r) (.inr ⟨a', rfl, r1, r2, r3, fun i hi => h6 i (by omega), r4⟩)
        exact ⟨l, e, hc, Kd.C_of_reads (d := (0 : Int)) (h1 := fun _ => rfl) hr⟩
    have small : ∀ r, r < len → L r ≤ 17592186043904 := by
      intro r hr
      obtain ⟨_, r1, r2, r3, r4, r5, r6⟩ := hrow r (by omega)
      cases hA : A r with
      | none => have hC := r5 hA; omega
      | some a' =>
        have hd : intRow (H := H) .i64 (A r) (L r) (Z r) ∈ (List.range len).map fun r => intRow (H := H) .i64 (A r) (L r) (Z r) := List.mem_map.2 ⟨r, List.mem_range.2 hr, rfl⟩
        have hn : ((lits (H := H) .i64 ((Z r).take (L r))).length + (lits (H := H) .i64 ((Z r).drop (L r))).length) * Try.prog.bytesOf 3 ∈ (intRow (H := H) .i64 (A r) (L r) (Z r)).weights Try.prog 22 := by
          rw [hA]
          simp [intRow, DataW.weights, Try.underlying22]
        have h2 := hw _ (by
          rw [hx]
          simp only [DataW.weights, Try.underlying25]
          exact List.mem_cons_of_mem _ (List.mem_append_left _ (weights_all hd hn)))
        rw [intBytes] at h2
        have h3 : (lits (H := H) .i64 ((Z r).take (L r))).length + (lits (H := H) .i64 ((Z r).drop (L r))).length = (Z r).length := by
          simp [lits]
          omega
        rw [h3] at h2
        have h4 : reachBytes = 140737488351232 := rfl
        omega
    obtain ⟨y, hy⟩ := choose_lt each
    have hn : ((List.range len).map y).length = len := by simp
    refine ⟨some a, cap, (List.range len).map y, by rw [hn]; exact hcs, by omega, ?_, fun r hr => ?_⟩
    · refine ⟨rfl, by rw [hn]; unfold maxLen at hm; omega, fun _ => ⟨a, rfl, fun j p hj => ?_⟩⟩
      have hj' : j < len := by have := (List.getElem?_eq_some_iff.1 hj).1; omega
      have hp : y j = p := by
        rw [List.getElem?_map, List.getElem?_range hj'] at hj
        exact Option.some.inj hj
      subst hp
      obtain ⟨e1, e2, e3⟩ := hy j hj'
      have hcell := (hrow j (by omega)).1
      refine ⟨[.slice (A j) (y j).length (C j)], rfl, ⟨A j, C j, rfl, e2, e3⟩, fun i u hu => ?_⟩
      have hi : i = 0 := by have := (List.getElem?_eq_some_iff.1 hu).1; simp at this; exact this
      subst hi
      have hu' : Value.slice (A j) (y j).length (C j) = u := by simpa using hu
      rw [← hu', ← e1]
      have e : a.add (j * (Kd.slice 3 (Kd.int .i64)).sz + 0) = a.add j := by show a.add (j * 1 + 0) = a.add j; rw [Nat.mul_one, Nat.add_zero]
      rw [e]
      exact hcell
    · obtain ⟨j, hj, rfl⟩ := List.mem_map.1 hr
      have hj' := List.mem_range.1 hj
      have := small j hj'
      have := (hy j hj').1
      omega
end
end Go.Proofs.Ytcfkkdjnalbnoaa
