/-
  reedpipelaw14.QuantOwn's printed function answers true.
-/
import Derived.Test.YtcfkkdjnalbnoaaPrintO4
import Derived.Test.YtcfkkdjnalbnoaaQgO
import Derived.Test.YtcfkkdjnalbnoaaQb
namespace Go.Proofs.Ytcfkkdjnalbnoaa
open Go.RowKit Go.Proofs.YtcfkkdjnalbnoaaW.PrintWords Go.Proofs.YtcfkkdjnalbnoaaW.PrintLast Go.Proofs.YtcfkkdjnalbnoaaW.PrintMore PrintI PrintO

theorem rdl_is (xs : List (List Int)) (i : Int) : rd_L1 xs i = rdl xs i := rfl
theorem line_yes {x s : Int} (h1 : -8191 ≤ x) (h2 : x ≤ 8191) (h3 : 0 ≤ s) (h4 : s ≤ 255) : power_Line.f x s = some (ln x s, 0) := by unfold power_Line.f; rw [if_pos ⟨h1, h2, h3, h4⟩]
theorem quant_yes {x s : Int} (h1 : -268435455 ≤ x) (h2 : x ≤ 268435455) (h3 : 0 ≤ s) (h4 : s ≤ 255) : power_Quant.f x s = some (qn x s, 0) := by unfold power_Quant.f; rw [if_pos ⟨h1, h2, h3, h4⟩]

/-- What a line of a window is asked. -/
structure AtOk (steps : List (List Int)) (l : List Int) (at_ b g : Int) (sent : Bool) : Prop where
  ll : l.length = 256
  a0 : 0 ≤ at_
  a1 : at_ < 256
  g0 : 0 ≤ g
  g1 : g < steps.length
  b0 : sent = true → 0 ≤ b
  b1 : sent = true → b < (rdl steps g).length
  s0 : sent = true → 0 ≤ rd (rdl steps g) b
  s1 : sent = true → rd (rdl steps g) b ≤ 255
/-- What is told of lines that are made. -/
structure Told (steps : List (List Int)) (l c : List Int) (at_ b g : Int) (sent : Bool) (m : Int) (h : Int → Int → Int) : Prop where
  len : c.length = 256
  m0 : -m ≤ rd l at_
  m1 : rd l at_ ≤ m
  v : rd c at_ = if sent = true then h (rd l at_) (rd (rdl steps g) b) else 0

theorem own_j5 (k : Nat) {steps : List (List Int)} {l c : List Int} {f at_ b g : Int} {sent : Bool} (h : AtOk steps l at_ b g sent) (hc : f = 0 → Told steps l c at_ b g sent 268435455 qn) :
    reedpipelaw14_QuantOwn.j5 (k + 1) steps l true c f at_ b 0 g sent = some true := by
  simp only [reedpipelaw14_QuantOwn.j5]
  by_cases hf : f = 0
  · rw [if_pos hf]
    obtain ⟨c0, c1, c2, c3⟩ := hc hf
    obtain ⟨h0, h1, h2, h3, h4, h5, h6, h7, h8⟩ := h
    cases sent
    · rw [if_neg (by decide)] at c3
      rw [if_neg (by decide), if_pos (by omega)]
      simp only [if_true]
      rw [if_pos h1, if_pos (by omega), if_pos c3]
    · rw [if_pos rfl] at c3
      simp only [if_true]
      rw [if_pos h1, if_pos (by omega), if_pos h3, if_pos h4, if_pos (h5 rfl), rdl_is, if_pos (h6 rfl), quant_yes c1 c2 (h7 rfl) (h8 rfl)]
      simp only [Option.bind_some, if_true]
      rw [if_pos (by omega), if_pos (by omega), if_pos c3]
  · rw [if_neg hf]

theorem own_j4 (k : Nat) {steps : List (List Int)} {l a c : List Int} {e f at_ b g : Int} {sent : Bool} (h : AtOk steps l at_ b g sent) (ha : e = 0 → Told steps l a at_ b g sent 8191 ln) (hc : f = 0 → Told steps l c at_ b g sent 268435455 qn) :
    reedpipelaw14_QuantOwn.j4 (k + 2) steps l true a e c f at_ b 0 g sent = some true := by
  simp only [reedpipelaw14_QuantOwn.j4]
  by_cases he : e = 0
  · rw [if_pos he]
    obtain ⟨c0, c1, c2, c3⟩ := ha he
    obtain ⟨h0, h1, h2, h3, h4, h5, h6, h7, h8⟩ := h
    cases sent
    · rw [if_neg (by decide)] at c3
      rw [if_neg (by decide), if_pos (by omega)]
      simp only [if_true]
      rw [if_pos h1, if_pos (by omega), if_pos c3]
      exact own_j5 k ⟨h0, h1, h2, h3, h4, h5, h6, h7, h8⟩ hc
    · rw [if_pos rfl] at c3
      simp only [if_true]
      rw [if_pos h1, if_pos (by omega), if_pos h3, if_pos h4, if_pos (h5 rfl), rdl_is, if_pos (h6 rfl), line_yes c1 c2 (h7 rfl) (h8 rfl)]
      simp only [Option.bind_some, if_true]
      rw [if_pos (by omega), if_pos (by omega), if_pos c3]
      exact own_j5 k ⟨h0, h1, h2, h3, h4, h5, h6, h7, h8⟩ hc
  · rw [if_neg he]
    exact own_j5 k h hc

/-- A line's band. -/
def ofB (r : Nat) (short : Bool) (n : Nat) : Bool :=
  match band_Of.f 400 (r : Int) short (n : Int) with
  | some (b, e) => decide (e = 0) && decide (0 ≤ b) && decide (b.toNat + 1 < (offs (r : Int) short).length) && decide (rd (offs (r : Int) short) b ≤ (n : Int)) && decide ((n : Int) < rd (offs (r : Int) short) (b + 1))
  | none => false
theorem long_of : ∀ r, r < 12 → ∀ line, line < 256 → ofB r false line = true := by decide +kernel
theorem short_of : ∀ r, r < 12 → ∀ line, line < 32 → ofB r true line = true := by decide +kernel
theorem ofB_get {r : Nat} {short : Bool} {n : Nat} (h : ofB r short n = true) : ∃ b : Nat, band_Of.f 400 (r : Int) short (n : Int) = some ((b : Int), 0) ∧ b + 1 < (offs (r : Int) short).length ∧ rd (offs (r : Int) short) b ≤ (n : Int) ∧ (n : Int) < rd (offs (r : Int) short) ((b : Int) + 1) := by
  unfold ofB at h
  split at h
  · rename_i b e he
    simp only [Bool.and_eq_true, decide_eq_true_eq] at h
    obtain ⟨⟨⟨⟨h0, h1⟩, h2⟩, h3⟩, h4⟩ := h
    refine ⟨b.toNat, ?_, h2, ?_, ?_⟩
    · rw [he, h0, Int.toNat_of_nonneg h1]
    · rw [Int.toNat_of_nonneg h1]; exact h3
    · rw [Int.toNat_of_nonneg h1]; exact h4
  · cases h
theorem of_in {rate : Int} (h0 : 0 ≤ rate) (h1 : rate ≤ 11) (short : Bool) {n : Int} (n0 : 0 ≤ n) (n1 : n < (if short = true then 32 else 256)) (k : Nat) (hk : 400 ≤ k) :
    ∃ b : Nat, band_Of.f k rate short n = some ((b : Int), 0) ∧ b + 1 < (offs rate short).length ∧ rd (offs rate short) b ≤ n ∧ n < rd (offs rate short) ((b : Int) + 1) := by
  have h : ofB rate.toNat short n.toNat = true := by
    cases short
    · rw [if_neg (by decide)] at n1; exact long_of _ (by omega) _ (by omega)
    · rw [if_pos rfl] at n1; exact short_of _ (by omega) _ (by omega)
  obtain ⟨b, e, r⟩ := ofB_get h
  rw [Int.toNat_of_nonneg h0, Int.toNat_of_nonneg n0] at e r
  exact ⟨b, at_rounds (fun k => band_Of.mono _ _ _ k) hk e, r⟩
theorem of_bad (k : Nat) (rate : Int) (short : Bool) (line : Int) (h : ¬ (0 ≤ rate ∧ rate ≤ 11)) : band_Of.f k rate short line = some (0, 2) := by
  unfold band_Of.f band_Offsets.f
  by_cases h1 : rate < 0
  · rw [if_pos h1]; rfl
  · rw [if_neg h1, if_pos (by omega)]; rfl

section
variable {rate seq shape max : Int} {gs : List Int} {books steps : List (List Int)} {l : List Int}
/-- A place, from its window and its number there. -/
theorem place_in (h : MayBe rate seq shape max gs) {w n : Int} {b : Nat} (w0 : 0 ≤ w) (w1 : w < wins seq) (hb : b + 1 < (offs rate (seq == 2)).length) (b0 : rd (offs rate (seq == 2)) b ≤ n) (b1 : n < rd (offs rate (seq == 2)) ((b : Int) + 1)) (hm : (b : Int) < max) :
    (w * 32 + n, (grpOf gs w : Int), (b : Int)) ∈ plc rate seq max gs := by
  refine plc_mem.2 ⟨w.toNat, b, (n - rd (offs rate (seq == 2)) b).toNat, by omega, by omega, ?_, ?_⟩
  · rw [wd_lt h.r0 h.r1 (seq == 2) hb]; omega
  · rw [Int.toNat_of_nonneg w0, show rd (offs rate (seq == 2)) b + (((n - rd (offs rate (seq == 2)) b).toNat : Nat) : Int) = n by omega]
theorem place_no (h : MayBe rate seq shape max gs) {w n : Int} {b : Nat} (w0 : 0 ≤ w) (w1 : w < wins seq) (hb : b + 1 < (offs rate (seq == 2)).length) (b0 : rd (offs rate (seq == 2)) b ≤ n) (b1 : n < rd (offs rate (seq == 2)) ((b : Int) + 1)) (hm : ¬ (b : Int) < max) :
    ∀ x ∈ plc rate seq max gs, x.1 ≠ w * 32 + n := by
  intro x hx e
  obtain ⟨v, b', j, hv, hb', hj, rfl⟩ := plc_mem.1 hx
  have hm1 := h.m1
  unfold bands at hm1
  have hb2 : b' + 1 < (offs rate (seq == 2)).length := by omega
  have hu := offs_up h.r0 h.r1 (seq == 2) b hb
  have hu' := offs_up h.r0 h.r1 (seq == 2) b' hb2
  have hj' := (wd_lt h.r0 h.r1 (seq == 2) hb2).1 hj
  simp only at e
  have en : rd (offs rate (seq == 2)) b' + (j : Int) = n := by
    unfold wins at hv w1
    by_cases hs : seq = 2
    · rw [if_pos hs] at hv w1
      have es : (seq == 2) = true := by rw [hs]; rfl
      rw [es] at hu hu' hj' b0 b1 e ⊢
      simp only [if_true] at hu hu'
      omega
    · rw [if_neg hs] at hv w1
      omega
  have := offs_one h.r0 h.r1 (seq == 2) (n := n) hb hb2 b0 b1 (by omega) (by omega)
  omega

/-- What a made line is at its place. -/
theorem told_of {m : Int} (h : Fine rate seq shape max gs books steps l m) (f : Int → Int → Int) {w n : Int} {b : Nat} (w0 : 0 ≤ w) (w1 : w < wins seq) (hb : b + 1 < (offs rate (seq == 2)).length) (b0 : rd (offs rate (seq == 2)) b ≤ n) (b1 : n < rd (offs rate (seq == 2)) ((b : Int) + 1))
    (a0 : 0 ≤ w * 32 + n) (a1 : w * 32 + n < 256) (s : Bool) (hs : s = (decide ((b : Int) < max) && sentB (rd (rdl books (grpOf gs w : Int)) (b : Int)))) :
    Told steps l (eachL rate seq max gs books steps l f) (w * 32 + n) (b : Int) (grpOf gs w : Int) s m f := by
  have hl := h.line a0 a1
  refine ⟨eachL_len .., hl.1, hl.2, ?_⟩
  by_cases hm : (b : Int) < max
  · have hx := place_in h.may w0 w1 hb b0 b1 hm
    rw [decide_eq_true hm, Bool.true_and] at hs
    have := eachL_in h.may books steps l f hx
    simp only at this
    rw [this]
    unfold val
    rw [hs]
  · rw [decide_eq_false hm, Bool.false_and] at hs
    rw [hs, if_neg (by decide)]
    exact eachL_out h.may books steps l f a0 (place_no h.may w0 w1 hb b0 b1 hm)
theorem wide_is (seq : Int) : wrap64 (Int.tdiv (256 : Int) (wins seq : Int)) = if (seq == 2) = true then 32 else 256 := by
  unfold wins
  by_cases h : seq = 2
  · rw [if_pos h, if_pos (by rw [h]; rfl)]; decide +kernel
  · rw [if_neg h, if_neg (by rw [Bool.not_eq_true, beq_eq_false_iff_ne]; exact h)]; decide +kernel
theorem at_is (seq : Int) {w n : Int} (w0 : 0 ≤ w) (w1 : w < wins seq) (n0 : 0 ≤ n) (n1 : n < (if (seq == 2) = true then 32 else 256)) :
    wrap64 (wrap64 (w * wrap64 (Int.tdiv (256 : Int) (wins seq : Int))) + n) = w * 32 + n ∧ 0 ≤ w * 32 + n ∧ w * 32 + n < 256 := by
  rw [wide_is]
  unfold wins at w1
  by_cases h : seq = 2
  · have e : (seq == 2) = true := by rw [h]; rfl
    rw [if_pos h] at w1
    rw [e] at n1 ⊢
    simp only [if_true] at n1 ⊢
    have e1 : wrap64 (w * 32) = w * 32 := by unfold wrap64; omega
    rw [e1]
    exact ⟨by unfold wrap64; omega, by omega, by omega⟩
  · have e : (seq == 2) = false := by rw [beq_eq_false_iff_ne]; exact h
    rw [if_neg h] at w1
    rw [e] at n1 ⊢
    simp only [Bool.false_eq_true, if_false] at n1 ⊢
    have ew : w = 0 := by omega
    subst ew
    rw [Int.zero_mul, Int.zero_mul, Int.zero_add]
    have e1 : wrap64 0 = 0 := by decide +kernel
    rw [e1, Int.zero_add]
    exact ⟨by unfold wrap64; omega, by omega, by omega⟩

theorem own_j3 (k : Nat) {a c : List Int} {e f w n : Int} {b : Nat} {m : Int} (h : Fine rate seq shape max gs books steps l m) (w0 : 0 ≤ w) (w1 : w < wins seq) (hb : b + 1 < (offs rate (seq == 2)).length) (b0 : rd (offs rate (seq == 2)) b ≤ n) (b1 : n < rd (offs rate (seq == 2)) ((b : Int) + 1))
    (a0 : 0 ≤ w * 32 + n) (a1 : w * 32 + n < 256) (ha : e = 0 → Fine rate seq shape max gs books steps l 8191 ∧ a = eachL rate seq max gs books steps l ln) (hc : f = 0 → Fine rate seq shape max gs books steps l 268435455 ∧ c = eachL rate seq max gs books steps l qn) :
    reedpipelaw14_QuantOwn.j3 (k + 3) books steps l true a e c f (w * 32 + n) (b : Int) 0 (grpOf gs w : Int) false seq shape max gs = some true := by
  have hg := group_lt h.may w w1
  have nb := h.nb
  have ns := h.ns
  have key : ∀ s : Bool, s = (decide ((b : Int) < max) && sentB (rd (rdl books (grpOf gs w : Int)) (b : Int))) → reedpipelaw14_QuantOwn.j4 (k + 2) steps l true a e c f (w * 32 + n) (b : Int) 0 (grpOf gs w : Int) s = some true := by
    intro s hs
    have hst : s = true → (b : Int) < max ∧ sentB (rd (rdl books (grpOf gs w : Int)) (b : Int)) = true := by
      intro e
      rw [e] at hs
      have := hs.symm
      rw [Bool.and_eq_true, decide_eq_true_eq] at this
      exact this
    refine own_j4 k ⟨h.nl, a0, a1, by omega, by omega, fun _ => by omega, fun e => ?_, fun e => ?_, fun e => ?_⟩ (fun e => ?_) (fun e => ?_)
    · have := h.rs (grpOf gs w) hg
      have := (hst e).1
      omega
    · exact (h.step (place_in h.may w0 w1 hb b0 b1 (hst e).1) (hst e).2).1
    · exact (h.step (place_in h.may w0 w1 hb b0 b1 (hst e).1) (hst e).2).2
    · rw [(ha e).2]; exact told_of (ha e).1 ln w0 w1 hb b0 b1 a0 a1 s hs
    · rw [(hc e).2]; exact told_of (hc e).1 qn w0 w1 hb b0 b1 a0 a1 s hs
  simp only [reedpipelaw14_QuantOwn.j3]
  rw [if_neg (by decide)]
  by_cases hm : (b : Int) < max
  · have hr := h.rb (grpOf gs w) hg
    rw [if_pos hm, if_pos (by omega), if_pos (by omega), if_pos (by omega), rdl_is, if_pos (by omega)]
    by_cases h1 : rd (rdl books (grpOf gs w : Int)) (b : Int) ≥ 1
    · rw [if_pos h1]
      refine key _ ?_
      rw [decide_eq_true hm, Bool.true_and]
      unfold sentB
      exact decide_eq_decide.2 ⟨fun h2 => ⟨h1, h2⟩, fun h2 => h2.2⟩
    · rw [if_neg h1]
      refine key _ ?_
      rw [decide_eq_true hm, Bool.true_and]
      unfold sentB
      exact (decide_eq_false (fun h2 => h1 h2.1)).symm
  · rw [if_neg hm]
    refine key _ ?_
    rw [decide_eq_false hm, Bool.false_and]

theorem own_j1 (k : Nat) (hk : 400 ≤ k) {a c : List Int} {e f w n : Int} (hmay : MayBe 11 seq shape max gs) (w0 : 0 ≤ w) (w1 : w < wins seq) (n0 : 0 ≤ n) (n1 : n < (if (seq == 2) = true then 32 else 256))
    (ha : e = 0 → Fine rate seq shape max gs books steps l 8191 ∧ a = eachL rate seq max gs books steps l ln) (hc : f = 0 → Fine rate seq shape max gs books steps l 268435455 ∧ c = eachL rate seq max gs books steps l qn) :
    reedpipelaw14_QuantOwn.j1 (k + 5) rate books steps l w n true a e c f (wins seq : Int) false seq shape max gs = some true := by
  have hl := may_len hmay
  have hw : (wins seq : Int) ≠ 0 := by omega
  obtain ⟨e1, a0, a1⟩ := at_is seq w0 w1 n0 n1
  simp only [reedpipelaw14_QuantOwn.j1]
  rw [if_neg (by decide), if_neg hw, e1]
  by_cases hr : 0 ≤ rate ∧ rate ≤ 11
  · obtain ⟨b, eb, hb, b0, b1⟩ := of_in hr.1 hr.2 (seq == 2) n0 n1 (k + 4) (by omega)
    rw [eb]
    simp only [Option.bind_some]
    rw [group_is hmay (k + 4) (by omega) w w0 w1]
    simp only [Option.bind_some]
    have end_ : ∀ m, Fine rate seq shape max gs books steps l m → reedpipelaw14_QuantOwn.j2 (k + 4) books steps l true a e c f (w * 32 + n) (b : Int) 0 (grpOf gs w : Int) 0 false seq shape max gs = some true := by
      intro m h
      have hg := group_lt h.may w w1
      have nb := h.nb
      simp only [reedpipelaw14_QuantOwn.j2]
      rw [if_neg (by decide)]
      simp only [if_true]
      rw [decide_eq_false (by omega)]
      exact own_j3 (k) h w0 w1 hb b0 b1 a0 a1 ha hc
    by_cases he : e = 0
    · rw [if_pos he]; exact end_ _ (ha he).1
    · rw [if_neg he]
      by_cases hf : f = 0
      · rw [show (f != 0) = false by rw [hf]; rfl]; exact end_ _ (hc hf).1
      · rw [show (f != 0) = true by rw [bne_iff_ne]; exact hf]
        simp only [reedpipelaw14_QuantOwn.j2, if_true]
  · rw [of_bad _ _ _ _ hr]
    simp only [Option.bind_some]
    rw [group_is hmay (k + 4) (by omega) w w0 w1]
    simp only [Option.bind_some]
    have he : e ≠ 0 := fun h => hr ⟨(ha h).1.may.r0, (ha h).1.may.r1⟩
    have hf : f ≠ 0 := fun h => hr ⟨(hc h).1.may.r0, (hc h).1.may.r1⟩
    rw [if_neg he, show (f != 0) = true by rw [bne_iff_ne]; exact hf]
    simp only [reedpipelaw14_QuantOwn.j2, if_true]
end

theorem pureOwn (rate seq shape max : Int) (gs : List Int) (books steps : List (List Int)) (l : List Int) (w n : Int) (hs0 : 0 ≤ seq) (hs1 : seq ≤ 255) :
    reedpipelaw14_QuantOwn.f 1000 rate seq shape max gs books steps l w n = some true := by
  unfold reedpipelaw14_QuantOwn.f
  rw [alive14]
  simp only [Option.bind_some]
  rcases great_is 1000 (by omega) seq shape max gs books steps l with hg | ⟨hg, g0, g1, g2, g3⟩
  · rw [hg]
    simp only [Option.bind_some, if_true]
    simp only [reedpipelaw14_QuantOwn.j0, if_true]
  · rw [hg]
    simp only [Option.bind_some]
    rw [if_neg (by decide)]
    simp only [reedpipelaw14_QuantOwn.j0]
    rw [if_neg (by decide)]
    have hz := sized_of g0 g1 g2 g3
    obtain ⟨a, e, hL, ha⟩ : ∃ a e, quant_Lines.f rate seq shape max gs books steps l = some (a, e) ∧ (e = 0 → Fine rate seq shape max gs books steps l 8191 ∧ a = eachL rate seq max gs books steps l ln) := by
      by_cases hr : rdy rate seq shape max gs books steps l 8191 = 0
      · exact ⟨_, _, lines_fine (fine_of hr) ⟨hs0, hs1⟩ hz, fun _ => ⟨fine_of hr, rfl⟩⟩
      · exact ⟨_, _, lines_not hr ⟨hs0, hs1⟩ hz, fun h => absurd h hr⟩
    obtain ⟨c, f, hQ, hc⟩ : ∃ c f, quant_Quantise.f rate seq shape max gs books steps l = some (c, f) ∧ (f = 0 → Fine rate seq shape max gs books steps l 268435455 ∧ c = eachL rate seq max gs books steps l qn) := by
      by_cases hr : rdy rate seq shape max gs books steps l 268435455 = 0
      · exact ⟨_, _, quant_fine (fine_of hr) ⟨hs0, hs1⟩ hz, fun _ => ⟨fine_of hr, rfl⟩⟩
      · exact ⟨_, _, quant_not hr ⟨hs0, hs1⟩ hz, fun h => absurd h hr⟩
    rw [hL]
    simp only [Option.bind_some]
    rw [hQ]
    simp only [Option.bind_some]
    have j1t : ∀ (m : Int), reedpipelaw14_QuantOwn.j1 999 rate books steps l w n true a e c f m true seq shape max gs = some true := fun m => by simp only [reedpipelaw14_QuantOwn.j1, if_true]
    by_cases hw : chk 11 seq shape max gs = 0
    · rw [windows_is seq shape max gs (by omega) 999 (by omega) hw]
      simp only [Option.bind_some, if_true]
      have hw1 : 0 < (wins seq : Int) := by unfold wins; split <;> decide
      by_cases c1 : w < 0
      · rw [if_pos c1]; exact j1t _
      · rw [if_neg c1]
        by_cases c2 : w ≥ (wins seq : Int)
        · rw [if_pos c2]; exact j1t _
        · rw [if_neg c2]
          by_cases c3 : n < 0
          · rw [if_pos c3]; exact j1t _
          · rw [if_neg c3, if_neg (by omega)]
            by_cases c4 : n ≥ wrap64 (Int.tdiv (256 : Int) (wins seq : Int))
            · rw [if_pos c4]; exact j1t _
            · rw [if_neg c4]
              rw [wide_is] at c4
              by_cases c5 : l.length = 256
              · rw [show ((l.length : Int) != 256) = false by rw [c5]; rfl]
                exact own_j1 994 (by omega) (may_be hw) (by omega) (by omega) (by omega) (by omega) ha hc
              · rw [show ((l.length : Int) != 256) = true by rw [bne_iff_ne]; omega]
                exact j1t _
    · rw [windows_no seq shape max gs (by omega) 999 (by omega) hw]
      simp only [Option.bind_some]
      rw [if_neg (by decide)]
      exact j1t _
end Go.Proofs.Ytcfkkdjnalbnoaa
