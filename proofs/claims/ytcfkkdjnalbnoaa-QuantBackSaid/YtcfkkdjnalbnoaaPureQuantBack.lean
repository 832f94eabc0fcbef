/-
  reedpipelaw14.QuantBack's printed function answers true.
-/
import Derived.Test.YtcfkkdjnalbnoaaPrintK5
import Derived.Test.YtcfkkdjnalbnoaaQgK
import Derived.Test.YtcfkkdjnalbnoaaQb
namespace Go.Proofs.Ytcfkkdjnalbnoaa
open Go.RowKit Go.Proofs.YtcfkkdjnalbnoaaW.PrintWords Go.Proofs.YtcfkkdjnalbnoaaW.PrintLast Go.Proofs.YtcfkkdjnalbnoaaW.PrintMore PrintK

theorem far_is {a b : Int} (h0 : -2305843009213693952 ≤ a) (h1 : a ≤ 2305843009213693952) (h2 : -2305843009213693952 ≤ b) (h3 : b ≤ 2305843009213693952) : reedpipelaw14_far.f a b = some (dist a b) := by
  unfold reedpipelaw14_far.f dist
  have e1 : wrap64 (a - b) = a - b := by unfold wrap64; omega
  have e2 : wrap64 (b - a) = b - a := by unfold wrap64; omega
  rw [e1, e2]

/-- What the other lines are. -/
def otherQ (q : List Int) (by_ : Int) (n : Int) : Int := mx (mn (rd q n + by_) 8191) (-8191)

theorem back_l1 (x a c : List Int) (hx : x.length = 256) (ha : a.length = 256) (hc : c.length = 256) (bx : ∀ n : Int, 0 ≤ n → n < 256 → -268435455 ≤ rd x n ∧ rd x n ≤ 268435455) (ba : ∀ n : Int, 0 ≤ n → n < 256 → -268435455 ≤ rd a n ∧ rd a n ≤ 268435455) (bc : ∀ n : Int, 0 ≤ n → n < 256 → -268435455 ≤ rd c n ∧ rd c n ≤ 268435455)
    (hn : ∀ n : Int, 0 ≤ n → dist (rd x n) (rd a n) ≤ dist (rd x n) (rd c n)) : ∀ (d k i : Nat), i ≤ 256 → 256 - i = d → d < k → reedpipelaw14_QuantBack.l1 k x true a c i = some true
  | d, 0, _, _, _, hk => by omega
  | 0, k + 1, i, hi, hd, _ => by
    have e : i = 256 := by omega
    subst e
    simp only [reedpipelaw14_QuantBack.l1]
    rw [if_neg (by omega)]
  | d + 1, k + 1, i, hi, hd, hk => by
    simp only [reedpipelaw14_QuantBack.l1]
    have e : wrap64 ((i : Int) + 1) = ((i + 1 : Nat) : Int) := by unfold wrap64; omega
    have b1 := bx i (by omega) (by omega)
    have b2 := ba i (by omega) (by omega)
    have b3 := bc i (by omega) (by omega)
    rw [if_pos (by omega), if_pos (by omega), if_pos (by omega), if_pos (by omega), far_is (by omega) (by omega) (by omega) (by omega)]
    simp only [Option.bind_some]
    rw [if_pos (by omega), far_is (by omega) (by omega) (by omega) (by omega)]
    simp only [Option.bind_some]
    have := hn i (by omega)
    rw [if_neg (by omega), e]
    exact back_l1 x a c hx ha hc bx ba bc hn d k (i + 1) (by omega) (by omega) (by omega)

section
variable {rate seq shape max : Int} {gs : List Int} {books steps : List (List Int)} {x : List Int}
theorem back_l0 (by_ : Int) (hby0 : -32768 ≤ by_) (hby1 : by_ ≤ 32767) (h : Fine rate seq shape max gs books steps x 268435455) (hs : 0 ≤ seq ∧ seq ≤ 255) (hz : sized gs books steps x) (q a b : List Int)
    (hq : q = eachL rate seq max gs books steps x qn) (ha : a = eachL rate seq max gs books steps q ln) (hb : b = eachL rate seq max gs books steps (eachL rate seq max gs books steps a qn) ln) :
    ∀ (d k i : Nat) (o : List Int), o.length = 256 → (∀ n : Int, 0 ≤ n → n < 256 → -8191 ≤ rd o n ∧ rd o n ≤ 8191) → i ≤ 256 → 256 - i = d → d + 300 < k →
      reedpipelaw14_QuantBack.l0 k rate books steps x by_ true q a b o i seq shape max gs = some true
  | d, 0, _, _, _, _, _, _, hk => by omega
  | 0, k + 1, i, o, ho, hob, hi, hd, hk => by
    have e : i = 256 := by omega
    subst e
    simp only [reedpipelaw14_QuantBack.l0]
    have fq := h.q
    rw [← hq] at fq
    have fa := fq.v
    rw [← ha] at fa
    have fo := h.lines (m' := 8191) ho (fun k hk => hob k (by omega) (by omega))
    rw [if_neg (by omega), lines_fine fo hs (sized_lines hz ho)]
    simp only [Option.bind_some, if_true]
    obtain ⟨k, rfl⟩ : ∃ j, k = j + 1 := ⟨k - 1, by omega⟩
    rw [eachL_len]
    simp only [reedpipelaw14_QuantBack.j3]
    rw [if_neg (by decide)]
    have fc := fo.v
    refine back_l1 x a _ h.nl fa.nl fc.nl (fun n h0 h1 => h.line h0 h1) (fun n h0 h1 => fa.line h0 h1) (fun n h0 h1 => fc.line h0 h1) ?_ 256 k 0 (by omega) (by omega) (by omega)
    intro n h0
    have := made_near h hob n h0
    rw [ha, hq]
    exact this
  | d + 1, k + 1, i, o, ho, hob, hi, hd, hk => by
    have fq := h.q
    rw [← hq] at fq
    have fa := fq.v
    rw [← ha] at fa
    have lb : b.length = 256 := by rw [hb, eachL_len]
    have eab : rd a i = rd b i := by
      have := made_again fq (i : Int) (by omega)
      rw [hb, ha]
      exact this.symm
    have bq := fq.line (n := (i : Int)) (by omega) (by omega)
    have lq := fq.nl
    have la := fa.nl
    have c1 : (i : Int) < 256 := by omega
    have c2 : (0 : Int) ≤ i := by omega
    have c3 : (i : Int) < (q.length : Int) := by omega
    have c4 : (i : Int) < (o.length : Int) := by omega
    have c5 : (i : Int) < (a.length : Int) := by omega
    have c6 : (i : Int) < (b.length : Int) := by omega
    have e1 : wrap64 by_ = by_ := by clear eab c1 c2 c3 c4 c5 c6 bq lq la lb; unfold wrap64; omega
    have e2 : wrap64 (rd q i + by_) = rd q i + by_ := by clear eab c1 c2 c3 c4 c5 c6 e1 lq la lb; unfold wrap64; omega
    have e : wrap64 ((i : Int) + 1) = ((i + 1 : Nat) : Int) := by clear eab c1 c2 c3 c4 c5 c6 e1 e2 bq lq la lb; unfold wrap64; omega
    simp only [reedpipelaw14_QuantBack.l0]
    rw [if_pos c1, if_pos c2, if_pos c3, if_pos c4, if_pos c5, if_pos c6, if_pos eab, e1, e2, e]
    clear e e1 e2 eab
    refine back_l0 by_ hby0 hby1 h hs hz q a b hq ha hb d k (i + 1) _ (by rw [List.length_set]; exact ho) (fun n h0 h1 => ?_) (by omega) (by omega) (by omega)
    by_cases en : (i : Int) = n
    · subst en
      rw [rd_set_same _ _ _ (by omega) (by omega)]
      unfold mx mn
      split <;> split <;> omega
    · rw [rd_set_other _ _ _ _ (by omega) h0 en]; exact hob n h0 h1
end

theorem pureBack (rate seq shape max : Int) (gs : List Int) (books steps : List (List Int)) (x : List Int) (by_ : Int) (hs0 : 0 ≤ seq) (hs1 : seq ≤ 255) (hby0 : -32768 ≤ by_) (hby1 : by_ ≤ 32767) :
    reedpipelaw14_QuantBack.f 1000 rate seq shape max gs books steps x by_ = some true := by
  unfold reedpipelaw14_QuantBack.f
  rw [alive14]
  simp only [Option.bind_some]
  rcases great_is 1000 (by omega) seq shape max gs books steps x with hg | ⟨hg, g0, g1, g2, g3⟩
  · rw [hg]
    simp only [Option.bind_some, if_true]
    simp only [reedpipelaw14_QuantBack.j0, if_true]
  · rw [hg]
    simp only [Option.bind_some]
    rw [if_neg (by decide)]
    simp only [reedpipelaw14_QuantBack.j0]
    rw [if_neg (by decide)]
    have hz := sized_of g0 g1 g2 g3
    by_cases hr : rdy rate seq shape max gs books steps x 268435455 = 0
    · have h := fine_of hr
      have fq := h.q
      have fa := fq.v
      have fr := fa.q
      have fb := fr.v
      have zq := sized_lines hz fq.nl
      have za := sized_lines hz fa.nl
      have zr := sized_lines hz fr.nl
      rw [quant_fine h ⟨hs0, hs1⟩ hz]
      simp only [Option.bind_some, if_true]
      rw [lines_fine fq ⟨hs0, hs1⟩ zq]
      simp only [Option.bind_some, if_true]
      rw [quant_fine fa ⟨hs0, hs1⟩ za]
      simp only [Option.bind_some, if_true]
      rw [lines_fine fr ⟨hs0, hs1⟩ zr]
      simp only [Option.bind_some, if_true]
      rw [if_pos (by rw [fa.nl]; rfl), if_pos (by rw [fb.nl]; rfl), fq.nl]
      simp only [reedpipelaw14_QuantBack.j1]
      rw [if_neg (by decide), if_pos (by decide)]
      refine back_l0 by_ hby0 hby1 h ⟨hs0, hs1⟩ hz _ _ _ rfl rfl rfl 256 998 0 (List.replicate 256 0) (by rw [List.length_replicate]) (fun n h0 h1 => ?_) (by omega) (by omega) (by omega)
      unfold rd
      rw [List.getD_eq_getElem?_getD, List.getElem?_replicate]
      split <;> decide
    · rw [quant_not hr ⟨hs0, hs1⟩ hz]
      simp only [Option.bind_some]
      rw [if_neg hr]
      simp only [if_true]
      rfl
end Go.Proofs.Ytcfkkdjnalbnoaa
