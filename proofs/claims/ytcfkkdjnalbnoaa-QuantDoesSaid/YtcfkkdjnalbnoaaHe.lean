/-
  The contracts of quant.Lines and quant.Quantise.
-/
import Derived.Test.YtcfkkdjnalbnoaaHd
import Derived.Test.YtcfkkdjnalbnoaaHb
import Derived.Test.YtcfkkdjnalbnoaaGrq
namespace Go.Proofs.Ytcfkkdjnalbnoaa
open Go.RowKit Go.Proofs.YtcfkkdjnalbnoaaW.PrintWords Go.Proofs.YtcfkkdjnalbnoaaW.PrintLast Go.Proofs.YtcfkkdjnalbnoaaW.PrintMore PrintI

/-- What is so where nothing is wrong. -/
structure Fine (rate seq shape max : Int) (gs : List Int) (books steps : List (List Int)) (l : List Int) (most : Int) : Prop where
  may : MayBe rate seq shape max gs
  nb : books.length = gs.length
  ns : steps.length = gs.length
  rb : ∀ k : Nat, k < gs.length → ((rdl books k).length : Int) = max
  rs : ∀ k : Nat, k < gs.length → ((rdl steps k).length : Int) = max
  bk : ∀ k b : Nat, k < gs.length → (b : Int) < max → badB (rd (rdl books k) b) (rd (rdl steps k) b) = false
  nl : l.length = 256
  ll : ∀ k : Nat, k < 256 → -most ≤ rd l k ∧ rd l k ≤ most
theorem fine_of {rate seq shape max : Int} {gs : List Int} {books steps : List (List Int)} {l : List Int} {most : Int} (h : rdy rate seq shape max gs books steps l most = 0) : Fine rate seq shape max gs books steps l most := by
  unfold rdy at h
  by_cases h1 : chk rate seq shape max gs = 0
  · rw [if_pos h1] at h
    by_cases h2 : manyBad max gs books steps = true
    · rw [if_pos h2] at h; cases h
    · rw [if_neg h2] at h
      by_cases h3 : rowsBad books steps = true
      · rw [if_pos h3] at h; cases h
      · rw [if_neg h3] at h
        by_cases h4 : l.length = 256
        · rw [if_pos h4] at h
          by_cases h5 : l.any (farB most) = true
          · rw [if_pos h5] at h; cases h
          · unfold manyBad at h2
            simp only [Bool.or_eq_true, decide_eq_true_eq, not_or, Bool.not_eq_true] at h2
            obtain ⟨a1, a2, a3, a4⟩ := h2
            have b1 : books.length = gs.length := by omega
            have b2 : steps.length = gs.length := by omega
            refine ⟨may_be h1, b1, b2, fun k hk => short_len a3 (by omega), fun k hk => short_len a4 (by omega), fun k b hk hb => ?_, h4, fun k hk => ?_⟩
            · rw [Bool.eq_false_iff]
              intro hx
              have hl := short_len a3 (show k < books.length by omega)
              exact h3 (rows_bad (show k < books.length by omega) (show b < (rdl books k).length by omega) hx)
            · have hx : farB most (rd l k) = false := by
                rw [Bool.eq_false_iff]
                intro hx
                exact h5 (any_at (farB most) l rd k (by omega) hx (rd_at l))
              unfold farB at hx
              rw [decide_eq_false_iff_not] at hx
              omega
        · rw [if_neg h4] at h; cases h
  · rw [if_neg h1] at h; exact absurd h h1
theorem of_fine {rate seq shape max : Int} {gs : List Int} {books steps : List (List Int)} {l : List Int} {most : Int} (h : Fine rate seq shape max gs books steps l most) : rdy rate seq shape max gs books steps l most = 0 := by
  obtain ⟨h1, h2, h3, h4, h5, h6, h7, h8⟩ := h
  unfold rdy
  have e1 : books.any (shortB max) = false := any_none (shortB max) books rdl (fun j hj => by unfold shortB; rw [bne_eq_false_iff_eq]; exact h4 j (by omega)) (rdl_at books)
  have e2 : steps.any (shortB max) = false := any_none (shortB max) steps rdl (fun j hj => by unfold shortB; rw [bne_eq_false_iff_eq]; exact h5 j (by omega)) (rdl_at steps)
  have e3 : manyBad max gs books steps = false := by unfold manyBad; rw [e1, e2, decide_eq_false (by omega), decide_eq_false (by omega)]; rfl
  have e4 : rowsBad books steps = false := rows_ok (fun j hj => row_ok (fun b hb => h6 j b (by omega) (by have := h4 j (by omega); omega)))
  have e5 : l.any (farB most) = false := any_none (farB most) l rd (fun j hj => by unfold farB; rw [decide_eq_false_iff_not]; have := h8 j (by omega); omega) (rd_at l)
  rw [if_pos (may_chk h1), e3, if_neg (by decide), e4, if_neg (by decide), if_pos h7, e5, if_neg (by decide)]
theorem sent_ok {bk st : Int} (h : badB bk st = false) (hs : sentB bk = true) : 0 ≤ st ∧ st ≤ 255 := by
  unfold badB at h
  rw [hs] at h
  simp only [Bool.or_eq_false_iff, Bool.true_and, decide_eq_false_iff_not] at h
  omega
def sized (gs : List Int) (books steps : List (List Int)) (l : List Int) : Prop := gs.length ≤ 140737488355328 ∧ books.length ≤ 140737488355328 ∧ steps.length ≤ 140737488355328 ∧ l.length ≤ 140737488355328
instance (gs : List Int) (books steps : List (List Int)) (l : List Int) : Decidable (sized gs books steps l) := by unfold sized; infer_instance

def quant_Lines.f (a0 a1_0 a1_1 a1_2 : Int) (l1_3 : List Int) (l2 l3 : List (List Int)) (l4 : List Int) : Option (List Int × Int) :=
  if (0 ≤ a1_0 ∧ a1_0 ≤ 255) ∧ sized l1_3 l2 l3 l4 then (if rdy a0 a1_0 a1_1 a1_2 l1_3 l2 l3 l4 8191 = 0 then some (eachL a0 a1_0 a1_2 l1_3 l2 l3 l4 ln, 0) else some ([], rdy a0 a1_0 a1_1 a1_2 l1_3 l2 l3 l4 8191)) else none
theorem call_Lines (x s : Int) (W : World) (h1 : -8191 ≤ x) (h2 : x ≤ 8191) (h3 : 0 ≤ s) (h4 : s ≤ 255) : Calls Try.prog 16 #[.int .i64 x, .int .i64 s] W fun e w' => e = .returned (.tuple #[.int .i64 (ln x s), .int .i64 0]) ∧ Below W.heap.size W w' :=
  power_Line.calls x s (ln x s) 0 W (by unfold power_Line.f; rw [if_pos ⟨h1, h2, h3, h4⟩])
set_option maxRecDepth 100000 in
set_option maxHeartbeats 1000000 in
theorem quant_Lines.calls (a0 a1_0 a1_1 a1_2 : Int) (A1_3 : Option Addr) (c1_3 : Nat) (l1_3 : List Int) (A2 : Option Addr) (c2 : Nat) (l2 : List (List Int)) (A3 : Option Addr) (c3 : Nat) (l3 : List (List Int)) (A4 : Option Addr) (c4 : Nat) (l4 : List Int) (r1 : List Int) (r2 : Int) (w : World)
    (hr1_3 : Kd.C (Kd.int .i64) w A1_3 l1_3.length l1_3) (hc1_3 : l1_3.length ≤ c1_3) (hr2 : Kd.C (Kd.slice 3 (Kd.int .i64)) w A2 l2.length l2) (_hc2 : l2.length ≤ c2) (hr3 : Kd.C (Kd.slice 3 (Kd.int .i64)) w A3 l3.length l3) (_hc3 : l3.length ≤ c3)
    (hr4 : Kd.C (Kd.int .i64) w A4 l4.length l4) (_hc4 : l4.length ≤ c4) (h : quant_Lines.f a0 a1_0 a1_1 a1_2 l1_3 l2 l3 l4 = some (r1, r2)) :
    Calls Try.prog 11 #[.int .i64 a0, .agg #[.int .u8 a1_0, .int .u8 a1_1, .int .i64 a1_2, .slice A1_3 l1_3.length c1_3], .slice A2 l2.length c2, .slice A3 l3.length c3, .slice A4 l4.length c4] w
      fun e w' => ∃ v0_ : Value, e = .returned (.tuple #[v0_, .int .i64 r2]) ∧ Kd.R (Kd.int .i64) 3 w' w.heap.size (fun _ => True) v0_ r1 ∧ Below w.heap.size w w' := by
  unfold quant_Lines.f at h
  by_cases hz : (0 ≤ a1_0 ∧ a1_0 ≤ 255) ∧ sized l1_3 l2 l3 l4
  · rw [if_pos hz] at h
    obtain ⟨⟨hs0, hs1⟩, hm1, hm2, hm3, hm4⟩ := hz
    have hu := Try.underlying24
    have HRD := Lib.hid (ready_x a0 a1_0 a1_1 a1_2 A1_3 c1_3 l1_3 A2 c2 l2 A3 c3 l3 A4 c4 l4 8191 (w.alloc (.cells #[.int .u8 a1_0, .int .u8 a1_1, .int .i64 a1_2, .slice A1_3 l1_3.length c1_3] 24)) (Kd.C_alloc hr1_3 _) hc1_3 hm1 (Kd.C_alloc hr2 _) hm2 (Kd.C_alloc hr3 _) hm3 (Kd.C_alloc hr4 _) hm4 (by omega) (by omega))
    have hbx : ∀ (b : Nat) (W : World), Below (w.alloc (.cells #[.int .u8 a1_0, .int .u8 a1_1, .int .i64 a1_2, .slice A1_3 l1_3.length c1_3] 24)).heap.size (w.alloc (.cells #[.int .u8 a1_0, .int .u8 a1_1, .int .i64 a1_2, .slice A1_3 l1_3.length c1_3] 24)) W →
        W.cell? ⟨w.heap.size, 0, none⟩ = some (.int .u8 a1_0) ∧ W.cell? ⟨w.heap.size, 1, none⟩ = some (.int .u8 a1_1) ∧ W.cell? ⟨w.heap.size, 2, none⟩ = some (.int .i64 a1_2) ∧ W.cell? ⟨w.heap.size, 3, none⟩ = some (.slice A1_3 l1_3.length c1_3) := fun _ W hb => by
      refine ⟨?_, ?_, ?_, ?_⟩
      all_goals
        refine cellof hb ?_
        go_simp
    have HBX := Lib.hid (hbx 0)
    have HR1 := Aside0.mk (Kd.C_alloc hr1_3 (.cells #[.int .u8 a1_0, .int .u8 a1_1, .int .i64 a1_2, .slice A1_3 l1_3.length c1_3] 24))
    have HR2 := Aside0.mk (Kd.C_alloc hr2 (.cells #[.int .u8 a1_0, .int .u8 a1_1, .int .i64 a1_2, .slice A1_3 l1_3.length c1_3] 24))
    have HR3 := Aside0.mk (Kd.C_alloc hr3 (.cells #[.int .u8 a1_0, .int .u8 a1_1, .int .i64 a1_2, .slice A1_3 l1_3.length c1_3] 24))
    have HR4 := Aside0.mk (Kd.C_alloc hr4 (.cells #[.int .u8 a1_0, .int .u8 a1_1, .int .i64 a1_2, .slice A1_3 l1_3.length c1_3] 24))
    clear hr1_3 hr2 hr3 hr4 hbx hm1 hm2 hm3 hm4
    by_cases he : rdy a0 a1_0 a1_1 a1_2 l1_3 l2 l3 l4 8191 = 0
    · rw [if_pos he] at h
      obtain ⟨rfl, rfl⟩ := Prod.mk.inj (Option.some.inj h)
      rw [he] at HRD
      have HF := Lib.hid (fine_of he)
      clear he h
      go_enter Try.func11, Try.ntmps11
      go_wp2_with (first
        | (go_at_call 24; refine (HRD.out).mono ?_; rintro e w1 ⟨rfl, hb⟩; obtain ⟨b0, b1, b2, b3⟩ := HBX.out _ hb)
        | (go_at_call 25; refine (each_x 16 ln 8191 call_Lines (enters_of Try.func16 (by kernel_rfl) rfl) a0 a1_0 a1_1 a1_2 A1_3 c1_3 l1_3 A2 c2 l2 A3 c3 l3 A4 c4 l4 _ (Kd.C_below HR1.out hb) hc1_3 (Kd.C_below HR2.out hb) (Kd.C_below HR3.out hb) (Kd.C_below HR4.out hb) HF.out.may hs0 hs1 HF.out.nb HF.out.ns HF.out.rb HF.out.rs HF.out.nl HF.out.ll (fun k b hk hb' hs => sent_ok (HF.out.bk k b hk hb') hs)).mono ?_; rintro e w2 ⟨v, rfl, hR, hb2⟩; obtain ⟨A8, c8, rfl⟩ := Kd.R_slice hR; have HRR := Aside0.mk hR; clear hR))
      go_ret2
      exact ⟨_, rfl, Kd.R_lower HRR.out (below_size (below_step (below_alloc (Below.refl _ _) _) hb)), below_step (below_step (below_alloc (Below.refl _ _) _) hb) hb2⟩
    · rw [if_neg he] at h
      obtain ⟨rfl, rfl⟩ := Prod.mk.inj (Option.some.inj h)
      clear h
      obtain ⟨q, hq⟩ : ∃ q, q = rdy a0 a1_0 a1_1 a1_2 l1_3 l2 l3 l4 8191 := ⟨_, rfl⟩
      rw [← hq] at HRD he ⊢
      have he1 : (q == 0) = false := beq_eq_false_iff_ne.mpr he
      have he2 : (q != 0) = true := bne_iff_ne.mpr he
      clear hq he
      go_enter Try.func11, Try.ntmps11
      go_wp2_with (go_at_call 24; refine (HRD.out).mono ?_; rintro e w1 ⟨rfl, hb⟩; obtain ⟨b0, b1, b2, b3⟩ := HBX.out _ hb)
      go_ret2
      exact ⟨_, rfl, Kd.R_nil _ _ _ _ _, below_step (below_alloc (Below.refl _ _) _) hb⟩
  · rw [if_neg hz] at h
    cases h

def quant_Quantise.f (a0 a1_0 a1_1 a1_2 : Int) (l1_3 : List Int) (l2 l3 : List (List Int)) (l4 : List Int) : Option (List Int × Int) :=
  if (0 ≤ a1_0 ∧ a1_0 ≤ 255) ∧ sized l1_3 l2 l3 l4 then (if rdy a0 a1_0 a1_1 a1_2 l1_3 l2 l3 l4 268435455 = 0 then some (eachL a0 a1_0 a1_2 l1_3 l2 l3 l4 qn, 0) else some ([], rdy a0 a1_0 a1_1 a1_2 l1_3 l2 l3 l4 268435455)) else none
theorem call_Quantise (x s : Int) (W : World) (h1 : -268435455 ≤ x) (h2 : x ≤ 268435455) (h3 : 0 ≤ s) (h4 : s ≤ 255) : Calls Try.prog 17 #[.int .i64 x, .int .i64 s] W fun e w' => e = .returned (.tuple #[.int .i64 (qn x s), .int .i64 0]) ∧ Below W.heap.size W w' :=
  power_Quant.calls x s (qn x s) 0 W (by unfold power_Quant.f; rw [if_pos ⟨h1, h2, h3, h4⟩])
set_option maxRecDepth 100000 in
set_option maxHeartbeats 1000000 in
theorem quant_Quantise.calls (a0 a1_0 a1_1 a1_2 : Int) (A1_3 : Option Addr) (c1_3 : Nat) (l1_3 : List Int) (A2 : Option Addr) (c2 : Nat) (l2 : List (List Int)) (A3 : Option Addr) (c3 : Nat) (l3 : List (List Int)) (A4 : Option Addr) (c4 : Nat) (l4 : List Int) (r1 : List Int) (r2 : Int) (w : World)
    (hr1_3 : Kd.C (Kd.int .i64) w A1_3 l1_3.length l1_3) (hc1_3 : l1_3.length ≤ c1_3) (hr2 : Kd.C (Kd.slice 3 (Kd.int .i64)) w A2 l2.length l2) (_hc2 : l2.length ≤ c2) (hr3 : Kd.C (Kd.slice 3 (Kd.int .i64)) w A3 l3.length l3) (_hc3 : l3.length ≤ c3)
    (hr4 : Kd.C (Kd.int .i64) w A4 l4.length l4) (_hc4 : l4.length ≤ c4) (h : quant_Quantise.f a0 a1_0 a1_1 a1_2 l1_3 l2 l3 l4 = some (r1, r2)) :
    Calls Try.prog 10 #[.int .i64 a0, .agg #[.int .u8 a1_0, .int .u8 a1_1, .int .i64 a1_2, .slice A1_3 l1_3.length c1_3], .slice A2 l2.length c2, .slice A3 l3.length c3, .slice A4 l4.length c4] w
      fun e w' => ∃ v0_ : Value, e = .returned (.tuple #[v0_, .int .i64 r2]) ∧ Kd.R (Kd.int .i64) 3 w' w.heap.size (fun _ => True) v0_ r1 ∧ Below w.heap.size w w' := by
  unfold quant_Quantise.f at h
  by_cases hz : (0 ≤ a1_0 ∧ a1_0 ≤ 255) ∧ sized l1_3 l2 l3 l4
  · rw [if_pos hz] at h
    obtain ⟨⟨hs0, hs1⟩, hm1, hm2, hm3, hm4⟩ := hz
    have hu := Try.underlying24
    have HRD := Lib.hid (ready_x a0 a1_0 a1_1 a1_2 A1_3 c1_3 l1_3 A2 c2 l2 A3 c3 l3 A4 c4 l4 268435455 (w.alloc (.cells #[.int .u8 a1_0, .int .u8 a1_1, .int .i64 a1_2, .slice A1_3 l1_3.length c1_3] 24)) (Kd.C_alloc hr1_3 _) hc1_3 hm1 (Kd.C_alloc hr2 _) hm2 (Kd.C_alloc hr3 _) hm3 (Kd.C_alloc hr4 _) hm4 (by omega) (by omega))
    have hbx : ∀ (b : Nat) (W : World), Below (w.alloc (.cells #[.int .u8 a1_0, .int .u8 a1_1, .int .i64 a1_2, .slice A1_3 l1_3.length c1_3] 24)).heap.size (w.alloc (.cells #[.int .u8 a1_0, .int .u8 a1_1, .int .i64 a1_2, .slice A1_3 l1_3.length c1_3] 24)) W →
        W.cell? ⟨w.heap.size, 0, none⟩ = some (.int .u8 a1_0) ∧ W.cell? ⟨w.heap.size, 1, none⟩ = some (.int .u8 a1_1) ∧ W.cell? ⟨w.heap.size, 2, none⟩ = some (.int .i64 a1_2) ∧ W.cell? ⟨w.heap.size, 3, none⟩ = some (.slice A1_3 l1_3.length c1_3) := fun _ W hb => by
      refine ⟨?_, ?_, ?_, ?_⟩
      all_goals
        refine cellof hb ?_
        go_simp
    have HBX := Lib.hid (hbx 0)
    have HR1 := Aside0.mk (Kd.C_alloc hr1_3 (.cells #[.int .u8 a1_0, .int .u8 a1_1, .int .i64 a1_2, .slice A1_3 l1_3.length c1_3] 24))
    have HR2 := Aside0.mk (Kd.C_alloc hr2 (.cells #[.int .u8 a1_0, .int .u8 a1_1, .int .i64 a1_2, .slice A1_3 l1_3.length c1_3] 24))
    have HR3 := Aside0.mk (Kd.C_alloc hr3 (.cells #[.int .u8 a1_0, .int .u8 a1_1, .int .i64 a1_2, .slice A1_3 l1_3.length c1_3] 24))
    have HR4 := Aside0.mk (Kd.C_alloc hr4 (.cells #[.int .u8 a1_0, .int .u8 a1_1, .int .i64 a1_2, .slice A1_3 l1_3.length c1_3] 24))
    clear hr1_3 hr2 hr3 hr4 hbx hm1 hm2 hm3 hm4
    by_cases he : rdy a0 a1_0 a1_1 a1_2 l1_3 l2 l3 l4 268435455 = 0
    · rw [if_pos he] at h
      obtain ⟨rfl, rfl⟩ := Prod.mk.inj (Option.some.inj h)
      rw [he] at HRD
      have HF := Lib.hid (fine_of he)
      clear he h
      go_enter Try.func10, Try.ntmps10
      go_wp2_with (first
        | (go_at_call 24; refine (HRD.out).mono ?_; rintro e w1 ⟨rfl, hb⟩; obtain ⟨b0, b1, b2, b3⟩ := HBX.out _ hb)
        | (go_at_call 25; refine (each_x 17 qn 268435455 call_Quantise (enters_of Try.func17 (by kernel_rfl) rfl) a0 a1_0 a1_1 a1_2 A1_3 c1_3 l1_3 A2 c2 l2 A3 c3 l3 A4 c4 l4 _ (Kd.C_below HR1.out hb) hc1_3 (Kd.C_below HR2.out hb) (Kd.C_below HR3.out hb) (Kd.C_below HR4.out hb) HF.out.may hs0 hs1 HF.out.nb HF.out.ns HF.out.rb HF.out.rs HF.out.nl HF.out.ll (fun k b hk hb' hs => sent_ok (HF.out.bk k b hk hb') hs)).mono ?_; rintro e w2 ⟨v, rfl, hR, hb2⟩; obtain ⟨A8, c8, rfl⟩ := Kd.R_slice hR; have HRR := Aside0.mk hR; clear hR))
      go_ret2
      exact ⟨_, rfl, Kd.R_lower HRR.out (below_size (below_step (below_alloc (Below.refl _ _) _) hb)), below_step (below_step (below_alloc (Below.refl _ _) _) hb) hb2⟩
    · rw [if_neg he] at h
      obtain ⟨rfl, rfl⟩ := Prod.mk.inj (Option.some.inj h)
      clear h
      obtain ⟨q, hq⟩ : ∃ q, q = rdy a0 a1_0 a1_1 a1_2 l1_3 l2 l3 l4 268435455 := ⟨_, rfl⟩
      rw [← hq] at HRD he ⊢
      have he1 : (q == 0) = false := beq_eq_false_iff_ne.mpr he
      have he2 : (q != 0) = true := bne_iff_ne.mpr he
      clear hq he
      go_enter Try.func10, Try.ntmps10
      go_wp2_with (go_at_call 24; refine (HRD.out).mono ?_; rintro e w1 ⟨rfl, hb⟩; obtain ⟨b0, b1, b2, b3⟩ := HBX.out _ hb)
      go_ret2
      exact ⟨_, rfl, Kd.R_nil _ _ _ _ _, below_step (below_alloc (Below.refl _ _) _) hb⟩
  · rw [if_neg hz] at h
    cases h
end Go.Proofs.Ytcfkkdjnalbnoaa
