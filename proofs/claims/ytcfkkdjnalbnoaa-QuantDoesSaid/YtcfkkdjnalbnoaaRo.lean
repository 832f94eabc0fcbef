/-
  The quant laws' arguments, opened: windows, lists, lists of lists.
-/
import Derived.Test.YtcfkkdjnalbnoaaHe
import Derived.Deep.Matrix
import Derived.Lib.SmallJoins
namespace Go.Proofs.Ytcfkkdjnalbnoaa
open Go.ChangeShapes Go.WideShapes Go.ChangeAt Go.Deep Go.Joins Go.RowKit Go.Proofs.YtcfkkdjnalbnoaaW.PrintWords Go.Proofs.YtcfkkdjnalbnoaaW.PrintLast

section
variable {H : Type} {enc : TypeId × Value → H} {W : World} {base : Nat} {held : Bool}

theorem infoShape : ∃ f0 f1 f2 f3 : Field, Try.prog.underlying 24 = some (.struct #[f0, f1, f2, f3]) ∧ f0.type = 5 ∧ f1.type = 5 ∧ f2.type = 3 ∧ f3.type = 22 ∧ oneCellFields Try.prog #[f0, f1, f2, f3] = true := by
  rw [Try.underlying24]
  exact ⟨_, _, _, _, rfl, rfl, rfl, rfl, rfl, by kernel_rfl⟩
theorem infoCells : Try.prog.cellsOf 24 = 4 := by kernel_rfl
theorem intCells : Try.prog.cellsOf 3 = 1 := by kernel_rfl
theorem rowCells : Try.prog.cellsOf 22 = 1 := by kernel_rfl

/-- A list, read. -/
theorem open_l {fuel : Nat} {cs : List Value} {x : DataW H × List MemPlace} (h : DataW.trod enc Try.prog W base (fun _ => true) held fuel 22 cs = some x) :
    ∃ (A : Option Addr) (c : Nat) (l : List Int), cs = [.slice A l.length c] ∧ l.length ≤ c ∧ Kd.C (Kd.int .i64) W A l.length l := by
  rcases open_ints Try.underlying22 Try.underlying3 intCells h with ⟨hcs, _⟩ | ⟨a, len, cap, zs, hcs, _, hl, hm, hz, _, hcell, hwz⟩
  · obtain ⟨l, e, hr, _, _, hc⟩ := ReadsInt.ofRowC (k := .i64) (w := W) (a := none) (len := 0) (cap := 0) (zs := []) (.inl ⟨rfl, rfl, rfl, rfl⟩)
    refine ⟨none, 0, l, by rw [← e]; exact hcs, hc, Kd.C_of_reads (d := (0 : Int)) (h1 := fun _ => rfl) hr⟩
  · obtain ⟨l, e, hr, _, _, hc⟩ := ReadsInt.ofRowC (k := .i64) (w := W) (a := some a) (len := len) (cap := cap) (zs := zs) (.inr ⟨a, rfl, hl, hm, by simpa using hz, hcell, hwz⟩)
    refine ⟨some a, cap, l, by rw [← e]; exact hcs, hc, Kd.C_of_reads (d := (0 : Int)) (h1 := fun _ => rfl) hr⟩

/-- A list of lists, read. -/
theorem open_ll {fuel : Nat} {cs : List Value} {x : DataW H × List MemPlace} (h : DataW.trod enc Try.prog W base (fun _ => true) held fuel 25 cs = some x) :
    ∃ (A : Option Addr) (c : Nat) (l : List (List Int)), cs = [.slice A l.length c] ∧ l.length ≤ c ∧ Kd.C (Kd.slice 3 (Kd.int .i64)) W A l.length l := by
  rcases open_int_rows Try.underlying25 Try.underlying22 Try.underlying3 rowCells intCells h with ⟨hcs, _⟩ | ⟨a, len, cap, A, L, C, Z, hcs, _, hl, hm, _, hrow⟩
  · exact ⟨none, 0, [], hcs, Nat.le_refl _, rfl, by decide, fun h => absurd h (by decide)⟩
  · have each : ∀ r, r < len → ∃ l : List Int, L r = l.length ∧ l.length ≤ C r ∧ Kd.C (Kd.int .i64) W (A r) l.length l := by
      intro r hr
      obtain ⟨_, r1, r2, r3, r4, r5, r6⟩ := hrow r (by omega)
      cases hA : A r with
      | none =>
        have hC := r5 hA
        have hz : Z r = [] := List.eq_nil_of_length_eq_zero (by omega)
        obtain ⟨l, e, hr, _, _, hc⟩ := ReadsInt.ofRowC (k := .i64) (w := W) (a := none) (len := 0) (cap := 0) (zs := []) (.inl ⟨rfl, rfl, rfl, rfl⟩)
        exact ⟨l, by omega, by omega, Kd.C_of_reads (d := (0 : Int)) (h1 := fun _ => rfl) hr⟩
      | some a' =>
        have h6 := (r6 a' hA).2
        obtain ⟨l, e, hr, _, _, hc⟩ := ReadsInt.ofRowC (k := .i64) (w := W) (a := some a') (len := L r) (cap := C r) (zs := Z r) (.inr ⟨a', rfl, r1, r2, r3, fun i hi => h6 i (by omega), r4⟩)
        exact ⟨l, e, hc, Kd.C_of_reads (d := (0 : Int)) (h1 := fun _ => rfl) hr⟩
    obtain ⟨y, hy⟩ := choose_lt each
    have hn : ((List.range len).map y).length = len := by simp
    refine ⟨some a, cap, (List.range len).map y, by rw [hn]; exact hcs, by omega, ?_⟩
    refine ⟨rfl, by rw [hn]; unfold maxLen at hm; omega, fun _ => ⟨a, rfl, fun j p hj => ?_⟩⟩
    have hj' : j < len := by have := (List.getElem?_eq_some_iff.1 hj).1; omega
    have hp : y j = p := by
      rw [List.getElem?_map, List.getElem?_range hj'] at hj
      exact Option.some.inj hj
    subst hp
    obtain ⟨e1, e2, e3⟩ := hy j hj'
    have hcell := (hrow j (by omega)).1
    refine ⟨[.slice (A j) (y j).length (C j)], rfl, ⟨A j, C j, rfl, e2, e3⟩, fun i u hu => ?_⟩
    have hi : i = 0 := by have := (List.getElem?_eq_some_iff.1 hu).1; simp at this; exact this
    subst hi
    have hu' : Value.slice (A j) (y j).length (C j) = u := by simpa using hu
    rw [← hu', ← e1]
    have e : a.add (j * (Kd.slice 3 (Kd.int .i64)).sz + 0) = a.add j := by show a.add (j * 1 + 0) = a.add j; rw [Nat.mul_one, Nat.add_zero]
    rw [e]
    exact hcell

/-- Windows, read. -/
theorem open_info {r : Reach} {b0 : Nat} {v : Value} {d : DataW H} {p : List MemPlace} (hv : Value.okWide Try.prog W r b0 24 v) (h : DataW.Trod enc Try.prog W base (fun _ => true) held 24 v d p) :
    ∃ (s sh m : Int) (A : Option Addr) (c : Nat) (gs : List Int), v = .agg #[.int .u8 s, .int .u8 sh, .int .i64 m, .slice A gs.length c] ∧ 0 ≤ s ∧ s ≤ 255 ∧ gs.length ≤ c ∧ Kd.C (Kd.int .i64) W A gs.length gs := by
  obtain ⟨f0, f1, f2, f3, hs, t0, t1, t2, t3, hone⟩ := infoShape
  obtain ⟨v0, v1, v2, v3, y0, y1, y2, y3, n, rfl, _, _, h0, h1, h2, h3⟩ := open_agg4 hs hone infoCells hv h
  rw [t0] at h0; rw [t1] at h1; rw [t2] at h2; rw [t3] at h3
  obtain ⟨s, e0, _, w0⟩ := DataW.trod_int Try.underlying5 h0
  obtain ⟨sh, e1, _, _⟩ := DataW.trod_int Try.underlying5 h1
  obtain ⟨m, e2, _, _⟩ := DataW.trod_int Try.underlying3 h2
  obtain ⟨A, c, gs, e3, hc, hC⟩ := open_l h3
  cases e0; cases e1; cases e2; cases e3
  have b := bounds_u8 w0
  exact ⟨s, sh, m, A, c, gs, rfl, b.1, b.2, hc, hC⟩
/-- Of a value of one cell. -/
theorem trod_one {t : TypeId} {a : Option Addr} {n c : Nat} {d : DataW H} {p : List MemPlace} (h : DataW.Trod enc Try.prog W base (fun _ => true) held t (.slice a n c) d p) : ∃ fuel, DataW.trod enc Try.prog W base (fun _ => true) held fuel t [.slice a n c] = some (d, p) := h
end
end Go.Proofs.Ytcfkkdjnalbnoaa
