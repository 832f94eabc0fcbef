/-
  The contract of quant.ready.
-/
import Derived.Test.YtcfkkdjnalbnoaaHa
import Derived.Deep.RegionWith
namespace Go.Proofs.Ytcfkkdjnalbnoaa
open Go.RowKit Go.Proofs.YtcfkkdjnalbnoaaW.PrintWords Go.Proofs.YtcfkkdjnalbnoaaW.PrintLast Go.Proofs.YtcfkkdjnalbnoaaW.PrintMore PrintI

theorem rdy_ret {k : IntKind} {a b : Int} (h : a = b) : Ending.returned (.int k a) = .returned (.int k b) := by rw [h]
def badB (bk st : Int) : Bool := decide (bk < 0 ∨ 13 < bk) || (sentB bk && decide (st < 0 ∨ 255 < st))
def rowBad (bs ss : List Int) : Bool := (List.range bs.length).any fun b => badB (rd bs b) (rd ss b)
def rowsBad (books steps : List (List Int)) : Bool := (List.range books.length).any fun g => rowBad (rdl books g) (rdl steps g)
def manyBad (max : Int) (gs : List Int) (books steps : List (List Int)) : Bool := decide (books.length ≠ gs.length) || (decide (steps.length ≠ gs.length) || (books.any (shortB max) || steps.any (shortB max)))
/-- The error of books, steps and lines. -/
def rdy (rate seq shape max : Int) (gs : List Int) (books steps : List (List Int)) (l : List Int) (most : Int) : Int :=
  if chk rate seq shape max gs = 0 then
    (if manyBad max gs books steps = true then 4 else if rowsBad books steps = true then 2 else if l.length = 256 then (if l.any (farB most) = true then 2 else 0) else 4)
  else chk rate seq shape max gs

theorem box_i (w W : World) (seq shape max : Int) (A : Option Addr) (n c : Nat) (most : Int) (h : Below ((w.alloc (.cells #[.int .u8 seq, .int .u8 shape, .int .i64 max, .slice A n c] 24)).alloc (.cells #[.int .i64 most] 3)).heap.size ((w.alloc (.cells #[.int .u8 seq, .int .u8 shape, .int .i64 max, .slice A n c] 24)).alloc (.cells #[.int .i64 most] 3)) W) :
    W.cell? ⟨w.heap.size, 0, none⟩ = some (.int .u8 seq) ∧ W.cell? ⟨w.heap.size, 1, none⟩ = some (.int .u8 shape) ∧ W.cell? ⟨w.heap.size, 2, none⟩ = some (.int .i64 max) ∧ W.cell? ⟨w.heap.size, 3, none⟩ = some (.slice A n c) ∧
      W.cell? ⟨w.heap.size + 1, 0, none⟩ = some (.int .i64 most) := by
  refine ⟨?_, ?_, ?_, ?_, ?_⟩
  all_goals
    refine (h.cell (by simp <;> omega)).trans ?_
    go_simp

set_option maxRecDepth 100000 in
set_option maxHeartbeats 1000000 in
theorem ready_chk (rate seq shape max : Int) (A1 : Option Addr) (c1 : Nat) (gs : List Int) (A2 : Option Addr) (c2 : Nat) (books : List (List Int)) (A3 : Option Addr) (c3 : Nat) (steps : List (List Int)) (A4 : Option Addr) (c4 : Nat) (l : List Int) (most : Int) (w : World)
    (hr1 : Kd.C (Kd.int .i64) w A1 gs.length gs) (hc1 : gs.length ≤ c1) (hm1 : gs.length ≤ 140737488355328) (he : chk rate seq shape max gs ≠ 0) :
    Calls Try.prog 24 #[.int .i64 rate, .agg #[.int .u8 seq, .int .u8 shape, .int .i64 max, .slice A1 gs.length c1], .slice A2 books.length c2, .slice A3 steps.length c3, .slice A4 l.length c4, .int .i64 most] w
      fun e w' => e = .returned (.int .i64 (chk rate seq shape max gs)) ∧ Below w.heap.size w w' := by
  have HCK := Lib.hid (check_is rate seq shape max gs hm1 (gs.length + 1) (by omega))
  obtain ⟨q, hq⟩ : ∃ q, q = chk rate seq shape max gs := ⟨_, rfl⟩
  rw [← hq] at he HCK ⊢
  have he2 : (q == 0) = false := beq_eq_false_iff_ne.mpr he
  have he3 : (q != 0) = true := bne_iff_ne.mpr he
  have hu := Try.underlying24
  have HR1 := Aside0.mk hr1
  clear hq he hr1 hm1
  go_enter Try.func24, Try.ntmps24
  go_wp2_with (go_at_call 38; refine (info_Check.calls (gs.length + 1) rate seq shape max A1 c1 gs q _ (Kd.C_alloc (Kd.C_alloc HR1.out _) _) hc1 HCK.out).mono ?_; rintro e w1 ⟨rfl, hb⟩)
  go_ret
  exact ⟨rfl, below_step (below_alloc (below_alloc (Below.refl _ _) _) _) hb⟩

set_option maxRecDepth 100000 in
set_option maxHeartbeats 1000000 in
theorem ready_many (rate seq shape max : Int) (A1 : Option Addr) (c1 : Nat) (gs : List Int) (A2 : Option Addr) (c2 : Nat) (books : List (List Int)) (A3 : Option Addr) (c3 : Nat) (steps : List (List Int)) (A4 : Option Addr) (c4 : Nat) (l : List Int) (most : Int) (w : World)
    (hr1 : Kd.C (Kd.int .i64) w A1 gs.length gs) (hc1 : gs.length ≤ c1) (hm1 : gs.length ≤ 140737488355328)
    (hr2 : Kd.C (Kd.slice 3 (Kd.int .i64)) w A2 books.length books) (hm2 : books.length ≤ 140737488355328) (hr3 : Kd.C (Kd.slice 3 (Kd.int .i64)) w A3 steps.length steps) (hm3 : steps.length ≤ 140737488355328)
    (he : chk rate seq shape max gs = 0)
    (hmany : books.length ≠ gs.length ∨ (books.length = gs.length ∧ steps.length ≠ gs.length) ∨ (books.length = gs.length ∧ steps.length = gs.length ∧ books.any (shortB max) = true) ∨ (books.length = gs.length ∧ steps.length = gs.length ∧ books.any (shortB max) = false ∧ steps.any (shortB max) = true)) :
    Calls Try.prog 24 #[.int .i64 rate, .agg #[.int .u8 seq, .int .u8 shape, .int .i64 max, .slice A1 gs.length c1], .slice A2 books.length c2, .slice A3 steps.length c3, .slice A4 l.length c4, .int .i64 most] w
      fun e w' => e = .returned (.int .i64 4) ∧ Below w.heap.size w w' := by
  have HCK := Lib.hid (check_is rate seq shape max gs hm1 (gs.length + 1) (by omega))
  rw [he] at HCK
  have hu := Try.underlying24
  have HR1 := Aside0.mk hr1
  have HR2 := Aside0.mk hr2
  have HR3 := Aside0.mk hr3
  have HM2 := Lib.hid hm2
  have HM3 := Lib.hid hm3
  clear hm1 hr1 hr2 hr3 he hm2 hm3
  rcases hmany with h | ⟨h1, h⟩ | ⟨h1, h2, h⟩ | ⟨h1, h2, h3, h⟩
  · have k1 : ((books.length : Int) != (gs.length : Int)) = true := bne_iff_ne.mpr (by omega)
    clear h
    go_enter Try.func24, Try.ntmps24
    go_wp2_with (first
      | (go_at_call 38; refine (info_Check.calls (gs.length + 1) rate seq shape max A1 c1 gs 0 _ (Kd.C_alloc (Kd.C_alloc HR1.out _) _) hc1 HCK.out).mono ?_; rintro e w1 ⟨rfl, hb⟩; obtain ⟨b0, b1, b2, b3, b4⟩ := box_i w w1 seq shape max A1 gs.length c1 most hb))
    go_ret
    exact ⟨rfl, below_step (below_alloc (below_alloc (Below.refl _ _) _) _) hb⟩
  · have k1 : ((books.length : Int) != (gs.length : Int)) = false := bne_eq_false_iff_eq.mpr (by omega)
    have k2 : ((steps.length : Int) != (gs.length : Int)) = true := bne_iff_ne.mpr (by omega)
    clear h h1
    go_enter Try.func24, Try.ntmps24
    go_wp2_with (first
      | (go_at_call 38; refine (info_Check.calls (gs.length + 1) rate seq shape max A1 c1 gs 0 _ (Kd.C_alloc (Kd.C_alloc HR1.out _) _) hc1 HCK.out).mono ?_; rintro e w1 ⟨rfl, hb⟩; obtain ⟨b0, b1, b2, b3, b4⟩ := box_i w w1 seq shape max A1 gs.length c1 most hb))
    go_ret
    exact ⟨rfl, below_step (below_alloc (below_alloc (Below.refl _ _) _) _) hb⟩
  all_goals
    have k1 : ((books.length : Int) != (gs.length : Int)) = false := bne_eq_false_iff_eq.mpr (by omega)
    have k2 : ((steps.length : Int) != (gs.length : Int)) = false := bne_eq_false_iff_eq.mpr (by omega)
    clear h1 h2
    try (have H3 := Lib.hid h3; clear h3)
    have H := Lib.hid h
    clear h
    go_enter Try.func24, Try.ntmps24
    go_wp2_with (first
      | (go_at_call 38; refine (info_Check.calls (gs.length + 1) rate seq shape max A1 c1 gs 0 _ (Kd.C_alloc (Kd.C_alloc HR1.out _) _) hc1 HCK.out).mono ?_; rintro e w1 ⟨rfl, hb⟩; obtain ⟨b0, b1, b2, b3, b4⟩ := box_i w w1 seq shape max A1 gs.length c1 most hb; have HW2 := Aside0.mk (Kd.C_below (Kd.C_alloc (Kd.C_alloc HR2.out _) _) hb); have HW3 := Aside0.mk (Kd.C_below (Kd.C_alloc (Kd.C_alloc HR3.out _) _) hb))
      | (go_at_call_of 41 books; refine (has_row max A2 c2 books w.heap.size _ HW2.out b2 HM2.out).mono ?_; rintro e w2 ⟨rfl, rfl⟩; first | rw [H3.out] | rw [H.out])
      | (go_at_call_of 41 steps; refine (has_row max A3 c3 steps w.heap.size _ HW3.out b2 HM3.out).mono ?_; rintro e w2 ⟨rfl, rfl⟩; rw [H.out]))
    go_ret
    exact ⟨rfl, below_step (below_alloc (below_alloc (Below.refl _ _) _) _) hb⟩

/-- No row before this one is bad. -/
def okTo (books steps : List (List Int)) (k : Nat) : Prop := ∀ j : Nat, j < k → rowBad (rdl books j) (rdl steps j) = false
def okRow (bs ss : List Int) (k : Nat) : Prop := ∀ j : Nat, j < k → badB (rd bs j) (rd ss j) = false

theorem rows_bad {books steps : List (List Int)} {k b : Nat} (hk : k < books.length) (hb : b < (rdl books k).length) (h : badB (rd (rdl books k) b) (rd (rdl steps k) b) = true) : rowsBad books steps = true := by
  unfold rowsBad
  rw [List.any_eq_true]
  refine ⟨k, List.mem_range.mpr hk, ?_⟩
  unfold rowBad
  rw [List.any_eq_true]
  exact ⟨b, List.mem_range.mpr hb, h⟩
theorem row_ok {bs ss : List Int} (h : okRow bs ss bs.length) : rowBad bs ss = false := by
  unfold rowBad
  rw [Bool.eq_false_iff]
  intro hx
  rw [List.any_eq_true] at hx
  obtain ⟨b, hb, hx⟩ := hx
  rw [h b (List.mem_range.mp hb)] at hx
  cases hx
theorem rows_ok {books steps : List (List Int)} (h : okTo books steps books.length) : rowsBad books steps = false := by
  unfold rowsBad
  rw [Bool.eq_false_iff]
  intro hx
  rw [List.any_eq_true] at hx
  obtain ⟨b, hb, hx⟩ := hx
  rw [h b (List.mem_range.mp hb)] at hx
  cases hx
theorem okRow_succ {bs ss : List Int} {b : Nat} (h : okRow bs ss b) (hb : badB (rd bs b) (rd ss b) = false) : okRow bs ss (b + 1) := fun j hj => by
  by_cases hjb : j = b
  · rw [hjb]; exact hb
  · exact h j (by omega)
theorem okTo_succ {books steps : List (List Int)} {k : Nat} (h : okTo books steps k) (hb : rowBad (rdl books k) (rdl steps k) = false) : okTo books steps (k + 1) := fun j hj => by
  by_cases hjb : j = k
  · rw [hjb]; exact hb
  · exact h j (by omega)
theorem short_len {mx : Int} {ls : List (List Int)} (h : ls.any (shortB mx) = false) {k : Nat} (hk : k < ls.length) : ((rdl ls k).length : Int) = mx := by
  have h1 : shortB mx (rdl ls k) = false := by
    rw [Bool.eq_false_iff]
    intro hx
    rw [any_at (shortB mx) ls rdl k hk hx (rdl_at ls)] at h
    cases h
  unfold shortB at h1
  exact bne_eq_false_iff_eq.mp h1

set_option maxRecDepth 100000 in
set_option maxHeartbeats 4000000 in
theorem ready_rest (rate seq shape max : Int) (A1 : Option Addr) (c1 : Nat) (gs : List Int) (A2 : Option Addr) (c2 : Nat) (books : List (List Int)) (A3 : Option Addr) (c3 : Nat) (steps : List (List Int)) (A4 : Option Addr) (c4 : Nat) (l : List Int) (most : Int) (w : World)
    (hr1 : Kd.C (Kd.int .i64) w A1 gs.length gs) (hc1 : gs.length ≤ c1) (hm1 : gs.length ≤ 140737488355328)
    (hr2 : Kd.C (Kd.slice 3 (Kd.int .i64)) w A2 books.length books) (hm2 : books.length ≤ 140737488355328) (hr3 : Kd.C (Kd.slice 3 (Kd.int .i64)) w A3 steps.length steps) (hm3 : steps.length ≤ 140737488355328)
    (hr4 : Kd.C (Kd.int .i64) w A4 l.length l) (hm4 : l.length ≤ 140737488355328) (hmost0 : 0 ≤ most) (hmost1 : most ≤ 268435455)
    (he : chk rate seq shape max gs = 0) (h1 : books.length = gs.length) (h2 : steps.length = gs.length) (h3 : books.any (shortB max) = false) (h4 : steps.any (shortB max) = false) :
    Calls Try.prog 24 #[.int .i64 rate, .agg #[.int .u8 seq, .int .u8 shape, .int .i64 max, .slice A1 gs.length c1], .slice A2 books.length c2, .slice A3 steps.length c3, .slice A4 l.length c4, .int .i64 most] w
      fun e w' => e = .returned (.int .i64 (if rowsBad books steps = true then 2 else if l.length = 256 then (if l.any (farB most) = true then 2 else 0) else 4)) ∧ Below w.heap.size w w' := by
  have HCK := Lib.hid (check_is rate seq shape max gs hm1 (gs.length + 1) (by omega))
  rw [he] at HCK
  have hu := Try.underlying24
  have HR1 := Aside0.mk hr1
  have HR2 := Aside0.mk hr2
  have HR3 := Aside0.mk hr3
  have HR4 := Aside0.mk hr4
  have HM2 := Lib.hid hm2
  have HM3 := Lib.hid hm3
  have HM4 := Lib.hid hm4
  have k1 : ((books.length : Int) != (gs.length : Int)) = false := bne_eq_false_iff_eq.mpr (by omega)
  have k2 : ((steps.length : Int) != (gs.length : Int)) = false := bne_eq_false_iff_eq.mpr (by omega)
  have HL := Lib.hid (show books.length = steps.length by omega)
  have hmx : max ≤ 40 := by have h := may_be he; have h5 := offs_len h.r0 h.r1 (seq == 2); have h6 := h.m1; unfold bands at h6; omega
  have H3 := Lib.hid h3
  have H4 := Lib.hid h4
  clear hm1 hr1 hr2 hr3 hr4 he hm3 hm4 h1 h2 h3 h4
  obtain ⟨V, hV⟩ : ∃ V : Int, V = (if rowsBad books steps = true then 2 else if l.length = 256 then (if l.any (farB most) = true then 2 else 0) else 4) := ⟨_, rfl⟩
  rw [← hV]
  have HV := Lib.hid hV
  clear hV
  go_enter Try.func24, Try.ntmps24
  go_wp2_with (first
    | (go_at_call 38; refine (info_Check.calls (gs.length + 1) rate seq shape max A1 c1 gs 0 _ (Kd.C_alloc (Kd.C_alloc HR1.out _) _) hc1 HCK.out).mono ?_; rintro e w1 ⟨rfl, hb⟩; obtain ⟨b0, b1, b2, b3, b4⟩ := box_i w w1 seq shape max A1 gs.length c1 most hb; have HW2 := Aside0.mk (Kd.C_below (Kd.C_alloc (Kd.C_alloc HR2.out _) _) hb); have HW3 := Aside0.mk (Kd.C_below (Kd.C_alloc (Kd.C_alloc HR3.out _) _) hb); have HW4 := Aside0.mk (Kd.C_below (Kd.C_alloc (Kd.C_alloc HR4.out _) _) hb))
    | (go_at_call_of 41 books; refine (has_row max A2 c2 books w.heap.size _ HW2.out b2 HM2.out).mono ?_; rintro e w2 ⟨rfl, rfl⟩; rw [H3.out])
    | (go_at_call_of 41 steps; refine (has_row max A3 c3 steps w.heap.size _ HW3.out b2 HM3.out).mono ?_; rintro e w2 ⟨rfl, rfl⟩; rw [H4.out]))
  go_loop [54] (fun v54 => ∃ k : Nat, k ≤ books.length ∧ v54 = .int .i64 k ∧ Hid (okTo books steps k)) (fun v54 => books.length - (intOf v54).toNat)
  case atStart => exact ⟨0, Nat.zero_le _, rfl, Lib.hid (fun j hj => absurd hj (Nat.not_lt_zero j))⟩
  case round =>
    obtain ⟨k, hk, rfl, HN⟩ := hrel
    by_cases hlt : k < books.length
    · have i0 : (0 : Int) ≤ (k : Int) := by omega
      have i1 : (k : Int) < (books.length : Int) := by omega
      have i2 : (k : Int) < (steps.length : Int) := by have := HL.out; omega
      obtain ⟨adB, AB, cB, hAB, hcB, _, hrB⟩ := at_row HW2.out (k : Int) i0 i1
      obtain ⟨adS, AS, cS, hAS, hcS, _, hrS⟩ := at_row HW3.out (k : Int) i0 i2
      rw [Int.toNat_natCast] at hcB hcS
      have HRB := Aside0.mk hrB
      have HRS := Aside0.mk hrS
      subst hAB hAS
      clear hrB hrS
      have hlB := short_len H3.out hlt
      have hlS := short_len H4.out (show k < steps.length by omega)
      obtain ⟨bs, hbs⟩ : ∃ bs, bs = rdl books k := ⟨_, rfl⟩
      obtain ⟨ss, hss⟩ : ∃ ss, ss = rdl steps k := ⟨_, rfl⟩
      rw [← hbs] at hcB HRB hlB
      rw [← hss] at hcS HRS hlS
      have HBS := Lib.hid hbs
      have HSS := Lib.hid hss
      have HLT := Lib.hid hlt
      have hb40 : bs.length ≤ 40 := by omega
      have HLL := Lib.hid (show bs.length = ss.length by omega)
      clear hbs hss hlB hlS
      go_wp2
      go_loop [61] (fun v61 => ∃ b : Nat, b ≤ bs.length ∧ v61 = .int .i64 b ∧ Hid (okRow bs ss b)) (fun v61 => bs.length - (intOf v61).toNat)
      case atStart => exact ⟨0, Nat.zero_le _, rfl, Lib.hid (fun j hj => absurd hj (Nat.not_lt_zero j))⟩
      case round =>
        obtain ⟨b, hbl, rfl, HNB⟩ := hrel
        by_cases hbt : b < bs.length
        · have j0 : (0 : Int) ≤ (b : Int) := by omega
          have j1 : (b : Int) < (bs.length : Int) := by omega
          have j2 : (b : Int) < (ss.length : Int) := by have := HLL.out; omega
          obtain ⟨aB, hAB, hcb⟩ := at_int HRB.out (b : Int) j0 j1
          obtain ⟨aS, hAS, hcs⟩ := at_int HRS.out (b : Int) j0 j2
          rw [Int.toNat_natCast] at hcb hcs
          subst hAB hAS
          obtain ⟨bk, hbk⟩ : ∃ bk, bk = rd bs b := ⟨_, rfl⟩
          obtain ⟨st, hst⟩ : ∃ st, st = rd ss b := ⟨_, rfl⟩
          rw [← hbk] at hcb
          rw [← hst] at hcs
          have HBAD : Hid (badB bk st = true → rowsBad books steps = true) := Lib.hid (fun h => rows_bad (k := k) (b := b) HLT.out (by rw [← HBS.out]; exact hbt) (by rw [← HBS.out, ← HSS.out, ← hbk, ← hst]; exact h))
          have HOK : Hid (badB bk st = false → okRow bs ss (b + 1)) := Lib.hid (fun h => okRow_succ HNB.out (by rw [← hbk, ← hst]; exact h))
          clear hbk hst
          by_cases hlow : bk < 0 ∨ 13 < bk
          · have HX := Lib.hid (HBAD.out (by unfold badB; rw [decide_eq_true hlow]; rfl))
            rcases hlow with hlow | hlow
            all_goals
              go_wp2
              go_ret
              exact ⟨rdy_ret (by rw [HV.out, HX.out]; rfl), below_step (below_alloc (below_alloc (Below.refl _ _) _) _) hb⟩
          · have n1 : 0 ≤ bk := by omega
            have n2 : bk ≤ 13 := by omega
            have hq : badB bk st = (sentB bk && decide (st < 0 ∨ 255 < st)) := by unfold badB; rw [decide_eq_false hlow]; rfl
            clear hlow
            rw [hq] at HBAD HOK
            clear hq
            have HS := Lib.hid (sent_x bk)
            obtain ⟨q, hq⟩ : ∃ q, q = sentB bk := ⟨_, rfl⟩
            rw [← hq] at HS HBAD HOK
            clear hq
            cases q
            · have HX := Lib.hid (HOK.out rfl)
              go_wp2_with (go_at_call 42; refine (HS.out _).mono ?_; rintro e w2 ⟨rfl, rfl⟩)
              go_round
              case rel => exact ⟨b + 1, hbt, by go_num, HX⟩
              case measure => simp [intOf]; omega
            · by_cases hs : st < 0 ∨ 255 < st
              · have HX := Lib.hid (HBAD.out (by rw [decide_eq_true hs]; rfl))
                rcases hs with hs | hs
                all_goals
                  go_wp2_with (go_at_call 42; refine (HS.out _).mono ?_; rintro e w2 ⟨rfl, rfl⟩)
                  go_ret
                  exact ⟨rdy_ret (by rw [HV.out, HX.out]; rfl), below_step (below_alloc (below_alloc (Below.refl _ _) _) _) hb⟩
              · have HX := Lib.hid (HOK.out (by rw [decide_eq_false hs]; rfl))
                have s1 : 0 ≤ st := by omega
                have s2 : st ≤ 255 := by omega
                clear hs
                go_wp2_with (go_at_call 42; refine (HS.out _).mono ?_; rintro e w2 ⟨rfl, rfl⟩)
                go_round
                case rel => exact ⟨b + 1, hbt, by go_num, HX⟩
                case measure => simp [intOf]; omega
        · obtain rfl : b = bs.length := by omega
          have HX := Lib.hid (okTo_succ HN.out (by rw [← HBS.out, ← HSS.out]; exact row_ok HNB.out))
          go_wp2
          go_round
          case rel => exact ⟨k + 1, hlt, by go_num, HX⟩
          case measure => simp [intOf]; omega
    · obtain rfl : k = books.length := by omega
      have HX := Lib.hid (rows_ok HN.out)
      by_cases hl : l.length = 256
      · have kl : ((l.length : Int) != 256) = false := bne_eq_false_iff_eq.mpr (by omega)
        have HLN := Lib.hid hl
        clear hl
        obtain ⟨q, hq⟩ : ∃ q, q = l.any (farB most) := ⟨_, rfl⟩
        have HQ := Lib.hid hq
        clear hq
        cases q
        all_goals
          go_wp2_with (go_at_call 43; refine (has_num most A4 c4 l (w.heap.size + 1) _ HW4.out hmost0 hmost1 b4 HM4.out).mono ?_; rintro e w2 ⟨rfl, rfl⟩; rw [← HQ.out])
          go_ret
          exact ⟨rdy_ret (by rw [HV.out, HX.out, if_neg (by simp), if_pos HLN.out, ← HQ.out]; rfl), below_step (below_alloc (below_alloc (Below.refl _ _) _) _) hb⟩
      · have kl : ((l.length : Int) != 256) = true := bne_iff_ne.mpr (by omega)
        have HLN := Lib.hid hl
        clear hl
        go_wp2
        go_ret
        exact ⟨rdy_ret (by rw [HV.out, HX.out, if_neg (by simp), if_neg HLN.out]), below_step (below_alloc (below_alloc (Below.refl _ _) _) _) hb⟩
/-- The contract of quant.ready, whatever it is handed. -/
theorem ready_x (rate seq shape max : Int) (A1 : Option Addr) (c1 : Nat) (gs : List Int) (A2 : Option Addr) (c2 : Nat) (books : List (List Int)) (A3 : Option Addr) (c3 : Nat) (steps : List (List Int)) (A4 : Option Addr) (c4 : Nat) (l : List Int) (most : Int) (w : World)
    (hr1 : Kd.C (Kd.int .i64) w A1 gs.length gs) (hc1 : gs.length ≤ c1) (hm1 : gs.length ≤ 140737488355328)
    (hr2 : Kd.C (Kd.slice 3 (Kd.int .i64)) w A2 books.length books) (hm2 : books.length ≤ 140737488355328) (hr3 : Kd.C (Kd.slice 3 (Kd.int .i64)) w A3 steps.length steps) (hm3 : steps.length ≤ 140737488355328)
    (hr4 : Kd.C (Kd.int .i64) w A4 l.length l) (hm4 : l.length ≤ 140737488355328) (hmost0 : 0 ≤ most) (hmost1 : most ≤ 268435455) :
    Calls Try.prog 24 #[.int .i64 rate, .agg #[.int .u8 seq, .int .u8 shape, .int .i64 max, .slice A1 gs.length c1], .slice A2 books.length c2, .slice A3 steps.length c3, .slice A4 l.length c4, .int .i64 most] w
      fun e w' => e = .returned (.int .i64 (rdy rate seq shape max gs books steps l most)) ∧ Below w.heap.size w w' := by
  unfold rdy
  by_cases he : chk rate seq shape max gs = 0
  · rw [if_pos he]
    by_cases hb : manyBad max gs books steps = true
    · rw [if_pos hb]
      refine ready_many rate seq shape max A1 c1 gs A2 c2 books A3 c3 steps A4 c4 l most w hr1 hc1 hm1 hr2 hm2 hr3 hm3 he ?_
      unfold manyBad at hb
      simp only [Bool.or_eq_true, decide_eq_true_eq] at hb
      by_cases h1 : books.length = gs.length
      · by_cases h2 : steps.length = gs.length
        · by_cases h3 : books.any (shortB max) = true
          · exact .inr (.inr (.inl ⟨h1, h2, h3⟩))
          · rcases hb with h | h | h | h
            · exact absurd h1 h
            · exact absurd h2 h
            · exact absurd h h3
            · exact .inr (.inr (.inr ⟨h1, h2, Bool.eq_false_iff.mpr h3, h⟩))
        · exact .inr (.inl ⟨h1, h2⟩)
      · exact .inl h1
    · rw [if_neg hb]
      unfold manyBad at hb
      simp only [Bool.or_eq_true, decide_eq_true_eq, not_or, Bool.not_eq_true] at hb
      obtain ⟨h1, h2, h3, h4⟩ := hb
      exact ready_rest rate seq shape max A1 c1 gs A2 c2 books A3 c3 steps A4 c4 l most w hr1 hc1 hm1 hr2 hm2 hr3 hm3 hr4 hm4 hmost0 hmost1 he (by omega) (by omega) h3 h4
  · rw [if_neg he]
    exact ready_chk rate seq shape max A1 c1 gs A2 c2 books A3 c3 steps A4 c4 l most w hr1 hc1 hm1 he
end Go.Proofs.Ytcfkkdjnalbnoaa
