/-
  The document's answer for lines: what its printed functions come to.
-/
import Derived.Test.YtcfkkdjnalbnoaaPrintD1
import Derived.Test.YtcfkkdjnalbnoaaPrintD2
import Derived.Test.YtcfkkdjnalbnoaaPrintD2
import Derived.Test.YtcfkkdjnalbnoaaQrD
import Derived.Test.YtcfkkdjnalbnoaaRtQ
namespace Go.Proofs.Ytcfkkdjnalbnoaa
open Go.RowKit Go.Proofs.YtcfkkdjnalbnoaaW.PrintWords Go.Proofs.YtcfkkdjnalbnoaaW.PrintLast Go.Proofs.YtcfkkdjnalbnoaaW.PrintMore PrintD

theorem rdl_is (xs : List (List Int)) (i : Int) : rd_L1 xs i = rdl xs i := rfl

section
variable {rate seq shape max : Int} {gs : List Int} {books steps : List (List Int)} {l : List Int}

theorem asked_l3 (at_ : Int) (h0 : 0 ≤ at_) (h1 : at_ ≤ 268435455) (hl : l.length = 256) : ∀ (d k i : Nat), i ≤ 256 → 256 - i = d → d < k →
    (reedpiperef14_asked.l3 k l at_ i = some 2 ∧ l.any (farB at_) = true) ∨ ((∀ n : Nat, i ≤ n → n < 256 → farB at_ (rd l n) = false) ∧ reedpiperef14_asked.l3 k l at_ i = some 0)
  | d, 0, _, _, _, hk => by omega
  | 0, k + 1, i, hi, hd, hk => by
    have e : i = 256 := by omega
    subst e
    simp only [reedpiperef14_asked.l3]
    exact .inr ⟨fun n a b => by omega, by rw [if_neg (by omega)]⟩
  | d + 1, k + 1, i, hi, hd, hk => by
    have e1 : wrap64 (-at_) = -at_ := by unfold wrap64; omega
    simp only [reedpiperef14_asked.l3]
    rw [if_pos (by omega), if_pos (by omega), if_pos (by omega), e1]
    clear e1
    by_cases c1 : rd l i < -at_
    · rw [if_pos c1]
      exact .inl ⟨rfl, any_at (farB at_) l rd i (by omega) (by unfold farB; exact decide_eq_true (.inl c1)) (rd_at l)⟩
    · rw [if_neg c1]
      by_cases c2 : rd l i > at_
      · rw [if_pos c2]
        exact .inl ⟨rfl, any_at (farB at_) l rd i (by omega) (by unfold farB; exact decide_eq_true (.inr c2)) (rd_at l)⟩
      · rw [if_neg c2]
        have e : wrap64 ((i : Int) + 1) = ((i + 1 : Nat) : Int) := by clear c1 c2; unfold wrap64; omega
        rw [e]
        clear e
        rcases asked_l3 at_ h0 h1 hl d k (i + 1) (by omega) (by omega) (by omega) with h | ⟨h, h2⟩
        · exact .inl h
        · refine .inr ⟨fun n a b => ?_, h2⟩
          rcases Nat.lt_or_ge i n with hh | hh
          · exact h n hh b
          · have : n = i := by omega
            subst this
            unfold farB
            exact decide_eq_false (by omega)

theorem asked_l2 (at_ : Int) (i : Nat) (hi : i < books.length) (hn : steps.length = books.length) (hb : ((rdl books i).length : Int) = max) (hs : ((rdl steps i).length : Int) = max) (hm : max ≤ 100) :
    ∀ (d k j : Nat), j ≤ max.toNat → max.toNat - j = d → d < k →
    (reedpiperef14_asked.l2 k books steps l at_ i j seq shape max gs = some 2 ∧ rowsBad books steps = true) ∨
    ((∀ n : Nat, j ≤ n → (n : Int) < max → badB (rd (rdl books i) n) (rd (rdl steps i) n) = false) ∧ ∃ k', k ≤ k' + d + 1 ∧ reedpiperef14_asked.l2 k books steps l at_ i j seq shape max gs = reedpiperef14_asked.l1 k' books steps l at_ (wrap64 ((i : Int) + 1)) seq shape max gs)
  | d, 0, _, _, _, hk => by omega
  | 0, k + 1, j, hj, hd, hk => by
    simp only [reedpiperef14_asked.l2]
    rw [if_neg (by omega)]
    exact .inr ⟨fun n a b => by omega, k, by omega, rfl⟩
  | d + 1, k + 1, j, hj, hd, hk => by
    have next : badB (rd (rdl books i) j) (rd (rdl steps i) j) = false →
        (reedpiperef14_asked.l2 k books steps l at_ i (wrap64 ((j : Int) + 1)) seq shape max gs = some 2 ∧ rowsBad books steps = true) ∨
        ((∀ n : Nat, j ≤ n → (n : Int) < max → badB (rd (rdl books i) n) (rd (rdl steps i) n) = false) ∧ ∃ k', k + 1 ≤ k' + (d + 1) + 1 ∧ reedpiperef14_asked.l2 k books steps l at_ i (wrap64 ((j : Int) + 1)) seq shape max gs = reedpiperef14_asked.l1 k' books steps l at_ (wrap64 ((i : Int) + 1)) seq shape max gs) := by
      intro hbad
      have e : wrap64 ((j : Int) + 1) = ((j + 1 : Nat) : Int) := by unfold wrap64; omega
      rw [e]
      clear e
      rcases asked_l2 at_ i hi hn hb hs hm d k (j + 1) (by omega) (by omega) (by omega) with h | ⟨h, k', h2, h3⟩
      · exact .inl h
      · refine .inr ⟨fun n a b => ?_, k', by omega, h3⟩
        rcases Nat.lt_or_ge j n with hh | hh
        · exact h n hh b
        · have : n = j := by omega
          subst this
          exact hbad
    have bad : badB (rd (rdl books i) j) (rd (rdl steps i) j) = true → rowsBad books steps = true := fun h => rows_bad hi (by omega) h
    have c1 : (j : Int) < max := by omega
    have c2 : (0 : Int) ≤ i := by omega
    have c3 : (i : Int) < (books.length : Int) := by omega
    have c4 : (0 : Int) ≤ j := by omega
    have c5 : (j : Int) < ((rdl books i).length : Int) := by omega
    have c6 : (i : Int) < (steps.length : Int) := by omega
    have c7 : (j : Int) < ((rdl steps i).length : Int) := by omega
    simp only [reedpiperef14_asked.l2]
    rw [if_pos c1, if_pos c2, if_pos c3, if_pos c4, rdl_is, if_pos c5]
    unfold badB at next bad
    by_cases d1 : rd (rdl books i) j < 0
    · rw [if_pos d1]
      exact .inl ⟨rfl, bad (by rw [decide_eq_true (.inl d1), Bool.true_or])⟩
    · rw [if_neg d1]
      by_cases d2 : rd (rdl books i) j > 13
      · rw [if_pos d2]
        exact .inl ⟨rfl, bad (by rw [decide_eq_true (.inr d2), Bool.true_or])⟩
      · rw [if_neg d2]
        rw [decide_eq_false (show ¬ (rd (rdl books i) j < 0 ∨ 13 < rd (rdl books i) j) by omega), Bool.false_or] at next bad
        by_cases d3 : rd (rdl books i) j ≥ 1
        · rw [if_pos d3]
          by_cases d4 : rd (rdl books i) j ≤ 11
          · have es : sentB (rd (rdl books i) j) = true := by unfold sentB; exact decide_eq_true ⟨d3, d4⟩
            rw [es, Bool.true_and] at next bad
            rw [if_pos d4, if_pos c6, rdl_is, if_pos c7]
            by_cases d5 : rd (rdl steps i) j < 0
            · rw [if_pos d5]
              exact .inl ⟨rfl, bad (decide_eq_true (.inl d5))⟩
            · rw [if_neg d5]
              by_cases d6 : rd (rdl steps i) j > 255
              · rw [if_pos d6]
                exact .inl ⟨rfl, bad (decide_eq_true (.inr d6))⟩
              · rw [if_neg d6]
                exact next (decide_eq_false (by omega))
          · have es : sentB (rd (rdl books i) j) = false := by unfold sentB; exact decide_eq_false (by omega)
            rw [es, Bool.false_and] at next
            rw [if_neg d4]
            exact next rfl
        · have es : sentB (rd (rdl books i) j) = false := by unfold sentB; exact decide_eq_false (by omega)
          rw [es, Bool.false_and] at next
          rw [if_neg d3]
          exact next rfl

theorem asked_l1 (at_ : Int) (hn : steps.length = books.length) (hb : ∀ i : Nat, i < books.length → ((rdl books i).length : Int) = max) (hs : ∀ i : Nat, i < books.length → ((rdl steps i).length : Int) = max) (hm : max ≤ 100) (hm0 : 0 ≤ max) (h8 : books.length ≤ 8) :
    ∀ (d k i : Nat), i ≤ books.length → books.length - i = d → d * 110 < k →
    (reedpiperef14_asked.l1 k books steps l at_ i seq shape max gs = some 2 ∧ rowsBad books steps = true) ∨
    ((∀ n : Nat, i ≤ n → n < books.length → rowBad (rdl books n) (rdl steps n) = false) ∧ ∃ k', k ≤ k' + d * 110 + 1 ∧ reedpiperef14_asked.l1 k books steps l at_ i seq shape max gs = if (l.length : Int) = 256 then reedpiperef14_asked.l3 k' l at_ 0 else some 4)
  | d, 0, _, _, _, hk => by omega
  | 0, k + 1, i, hi, hd, hk => by
    simp only [reedpiperef14_asked.l1]
    rw [if_neg (by omega)]
    exact .inr ⟨fun n a b => by omega, k, by omega, rfl⟩
  | d + 1, k + 1, i, hi, hd, hk => by
    have hi' : i < books.length := by omega
    simp only [reedpiperef14_asked.l1]
    rw [if_pos (by omega)]
    rcases asked_l2 (l := l) (seq := seq) (shape := shape) (gs := gs) at_ i hi' hn (hb i hi') (hs i hi') hm max.toNat k 0 (by omega) (by omega) (by omega) with h | ⟨h, k', h2, h3⟩
    · exact .inl h
    · have h3 : reedpiperef14_asked.l2 k books steps l at_ i 0 seq shape max gs = reedpiperef14_asked.l1 k' books steps l at_ (wrap64 ((i : Int) + 1)) seq shape max gs := h3
      rw [h3]
      have e : wrap64 ((i : Int) + 1) = ((i + 1 : Nat) : Int) := by clear h hb hs; unfold wrap64; omega
      rw [e]
      clear e
      have row : rowBad (rdl books i) (rdl steps i) = false := row_ok (fun b hb' => h b (by omega) (by have := hb i hi'; omega))
      rcases asked_l1 at_ hn hb hs hm hm0 h8 d k' (i + 1) (by omega) (by omega) (by omega) with h | ⟨h, k2, h4, h5⟩
      · exact .inl h
      · refine .inr ⟨fun n a b => ?_, k2, by omega, h5⟩
        rcases Nat.lt_or_ge i n with hh | hh
        · exact h n hh b
        · have : n = i := by omega
          subst this
          exact row

theorem asked_l0 (at_ : Int) (hn : steps.length = books.length) (h8 : books.length ≤ 8) : ∀ (d k i : Nat), i ≤ books.length → books.length - i = d → d < k →
    (reedpiperef14_asked.l0 k books steps l at_ i seq shape max gs = some 4 ∧ (books.any (shortB max) || steps.any (shortB max)) = true) ∨
    ((∀ n : Nat, i ≤ n → n < books.length → ((rdl books n).length : Int) = max ∧ ((rdl steps n).length : Int) = max) ∧ ∃ k', k ≤ k' + d + 1 ∧ reedpiperef14_asked.l0 k books steps l at_ i seq shape max gs = reedpiperef14_asked.l1 k' books steps l at_ 0 seq shape max gs)
  | d, 0, _, _, _, hk => by omega
  | 0, k + 1, i, hi, hd, hk => by
    simp only [reedpiperef14_asked.l0]
    rw [if_neg (by omega)]
    exact .inr ⟨fun n a b => by omega, k, by omega, rfl⟩
  | d + 1, k + 1, i, hi, hd, hk => by
    have hi' : i < books.length := by omega
    simp only [reedpiperef14_asked.l0]
    rw [if_pos (by omega), if_pos (by omega), rdl_is, rdl_is]
    by_cases c1 : ((rdl books i).length : Int) = max
    · rw [if_pos c1, if_pos (by omega)]
      by_cases c2 : ((rdl steps i).length : Int) = max
      · rw [if_pos c2]
        have e : wrap64 ((i : Int) + 1) = ((i + 1 : Nat) : Int) := by clear c1 c2; unfold wrap64; omega
        rw [e]
        clear e
        rcases asked_l0 at_ hn h8 d k (i + 1) (by omega) (by omega) (by omega) with h | ⟨h, k', h2, h3⟩
        · exact .inl h
        · refine .inr ⟨fun n a b => ?_, k', by omega, h3⟩
          rcases Nat.lt_or_ge i n with hh | hh
          · exact h n hh b
          · have : n = i := by omega
            subst this
            exact ⟨c1, c2⟩
      · rw [if_neg c2]
        refine .inl ⟨rfl, ?_⟩
        rw [any_at (shortB max) steps rdl i (by omega) (by unfold shortB; rw [bne_iff_ne]; exact c2) (rdl_at steps), Bool.or_true]
    · rw [if_neg c1]
      refine .inl ⟨rfl, ?_⟩
      rw [any_at (shortB max) books rdl i (by omega) (by unfold shortB; rw [bne_iff_ne]; exact c1) (rdl_at books), Bool.true_or]

theorem asked_ref (at_ : Int) (h0 : 0 ≤ at_) (h1 : at_ ≤ 268435455) (hl : gs.length ≤ 1000) (k : Nat) (hk : 3000 ≤ k) : reedpiperef14_asked.f k rate seq shape max gs books steps l at_ = some (rdy rate seq shape max gs books steps l at_) := by
  obtain ⟨k, rfl⟩ : ∃ j, k = j + 1 := ⟨k - 1, by omega⟩
  unfold reedpiperef14_asked.f rdy
  rw [check_ref rate seq shape max gs hl (k + 1) (by omega)]
  simp only [Option.bind_some]
  by_cases hc : chk rate seq shape max gs = 0
  · rw [if_pos hc, if_pos hc]
    have hmay := may_be hc
    have hg8 := may_len hmay
    have hm1 := hmay.m1
    have hm0 := hmay.m0
    have ho := (offs_len hmay.r0 hmay.r1 (seq == 2)).2.1
    unfold bands at hm1
    by_cases c1 : books.length = gs.length
    · rw [if_pos (by omega)]
      by_cases c2 : steps.length = gs.length
      · rw [show ((steps.length : Int) != (gs.length : Int)) = false by rw [bne_eq_false_iff_eq]; omega]
        have em : manyBad max gs books steps = (books.any (shortB max) || steps.any (shortB max)) := by
          unfold manyBad
          rw [decide_eq_false (by omega), decide_eq_false (by omega), Bool.false_or, Bool.false_or]
        rw [em]
        simp only [reedpiperef14_asked.j0]
        rw [if_neg (by decide)]
        rcases asked_l0 (l := l) (seq := seq) (shape := shape) (gs := gs) (max := max) at_ (show steps.length = books.length by omega) (by omega) books.length k 0 (by omega) (by omega) (by omega) with ⟨ha, hb⟩ | ⟨ha, k1, hk1, hb⟩
        · rw [if_pos hb]; exact ha
        · have hb : reedpiperef14_asked.l0 k books steps l at_ 0 seq shape max gs = reedpiperef14_asked.l1 k1 books steps l at_ 0 seq shape max gs := hb
          rw [hb]
          have e1 : books.any (shortB max) = false := any_none (shortB max) books rdl (fun j hj => by unfold shortB; rw [bne_eq_false_iff_eq]; exact (ha j (by omega) hj).1) (rdl_at books)
          have e2 : steps.any (shortB max) = false := any_none (shortB max) steps rdl (fun j hj => by unfold shortB; rw [bne_eq_false_iff_eq]; exact (ha j (by omega) (by omega)).2) (rdl_at steps)
          rw [e1, e2, if_neg (by decide)]
          rcases asked_l1 (l := l) (seq := seq) (shape := shape) (gs := gs) (max := max) at_ (show steps.length = books.length by omega) (fun i hi => (ha i (by omega) hi).1) (fun i hi => (ha i (by omega) hi).2) (by omega) hm0 (by omega) books.length k1 0 (by omega) (by omega) (by omega) with ⟨hd, he⟩ | ⟨hd, k2, hk2, he⟩
          · rw [if_pos he]; exact hd
          · have he : reedpiperef14_asked.l1 k1 books steps l at_ 0 seq shape max gs = if (l.length : Int) = 256 then reedpiperef14_asked.l3 k2 l at_ 0 else some 4 := he
            have hrb : rowsBad books steps = false := rows_ok (fun n hn => hd n (by omega) hn)
            rw [he, hrb, if_neg (show ¬ (false = true) by decide)]
            by_cases c3 : l.length = 256
            · rw [if_pos (by omega), if_pos c3]
              rcases asked_l3 (l := l) at_ h0 h1 c3 256 k2 0 (by omega) (by omega) (by omega) with ⟨hf, hg⟩ | ⟨hf, hg⟩
              · rw [if_pos hg]; exact hf
              · have : l.any (farB at_) = false := any_none (farB at_) l rd (fun j hj => hf j (by omega) (by omega)) (rd_at l)
                rw [this, if_neg (by decide)]; exact hg
            · rw [if_neg (by omega), if_neg c3]
      · rw [show ((steps.length : Int) != (gs.length : Int)) = true by rw [bne_iff_ne]; omega]
        simp only [reedpiperef14_asked.j0, if_true]
        have em : manyBad max gs books steps = true := by
          unfold manyBad
          rw [decide_eq_true c2, Bool.true_or, Bool.or_true]
        rw [em]
        simp
    · rw [if_neg (by omega)]
      simp only [reedpiperef14_asked.j0, if_true]
      have em : manyBad max gs books steps = true := by
        unfold manyBad
        rw [decide_eq_true c1, Bool.true_or]
      rw [em]
      simp
  · rw [if_neg hc, if_neg hc]

/-- A line that is made, by its window, its number there and its band. -/
theorem line_val {m : Int} (h : Fine rate seq shape max gs books steps l m) (f : Int → Int → Int) {w n : Int} {b : Nat} (w0 : 0 ≤ w) (w1 : w < wins seq) (hb : b + 1 < (offs rate (seq == 2)).length) (b0 : rd (offs rate (seq == 2)) b ≤ n) (b1 : n < rd (offs rate (seq == 2)) ((b : Int) + 1)) (a0 : 0 ≤ w * 32 + n) :
    rd (eachL rate seq max gs books steps l f) (w * 32 + n) = if (decide ((b : Int) < max) && sentB (rd (rdl books (grpOf gs w : Int)) (b : Int))) = true then f (rd l (w * 32 + n)) (rd (rdl steps (grpOf gs w : Int)) (b : Int)) else 0 := by
  by_cases hm : (b : Int) < max
  · rw [decide_eq_true hm, Bool.true_and]
    have hx : (w * 32 + n, (grpOf gs w : Int), (b : Int)) ∈ plc rate seq max gs := by
      refine plc_mem.2 ⟨w.toNat, b, (n - rd (offs rate (seq == 2)) b).toNat, by omega, by omega, ?_, ?_⟩
      · rw [wd_lt h.may.r0 h.may.r1 (seq == 2) hb]; omega
      · rw [Int.toNat_of_nonneg w0, show rd (offs rate (seq == 2)) b + (((n - rd (offs rate (seq == 2)) b).toNat : Nat) : Int) = n by omega]
    have := eachL_in h.may books steps l f hx
    simp only at this
    rw [this]
    rfl
  · rw [decide_eq_false hm, Bool.false_and, if_neg (by decide)]
    refine eachL_out h.may books steps l f a0 ?_
    intro x hx e
    obtain ⟨v, b', j, hv, hb', hj, rfl⟩ := plc_mem.1 hx
    have hm1 := h.may.m1
    unfold bands at hm1
    have hb2 : b' + 1 < (offs rate (seq == 2)).length := by omega
    have hu := offs_up h.may.r0 h.may.r1 (seq == 2) b hb
    have hu' := offs_up h.may.r0 h.may.r1 (seq == 2) b' hb2
    have hj' := (wd_lt h.may.r0 h.may.r1 (seq == 2) hb2).1 hj
    simp only at e
    have en : rd (offs rate (seq == 2)) b' + (j : Int) = n := by
      unfold wins at hv w1
      by_cases hs : seq = 2
      · rw [if_pos hs] at hv w1
        have es : (seq == 2) = true := by rw [hs]; rfl
        rw [es] at hu hu' hj' b0 b1 e ⊢
        simp only [if_true] at hu hu'
        omega
      · rw [if_neg hs] at hv w1
        omega
    have := offs_one h.may.r0 h.may.r1 (seq == 2) (n := n) hb hb2 b0 b1 (by omega) (by omega)
    omega

theorem sent_ref {m : Int} (h : Fine rate seq shape max gs books steps l m) {g b : Int} (g0 : 0 ≤ g) (g1 : g < gs.length) (b0 : 0 ≤ b) : reedpiperef14_Sent.f seq shape max gs books g b = some (decide (b < max) && sentB (rd (rdl books g) b)) := by
  unfold reedpiperef14_Sent.f
  by_cases hm : b < max
  · have hr := h.rb g.toNat (by omega)
    rw [Int.toNat_of_nonneg g0] at hr
    have nb := h.nb
    rw [if_pos hm, if_pos g0, if_pos (by omega), if_pos b0, rdl_is, if_pos (by omega), decide_eq_true hm, Bool.true_and]
    unfold sentB
    by_cases c1 : rd (rdl books g) b ≥ 1
    · rw [if_pos c1]
      congr 1
      exact decide_eq_decide.2 ⟨fun h2 => ⟨c1, h2⟩, fun h2 => h2.2⟩
    · rw [if_neg c1, decide_eq_false (fun h2 => c1 h2.1)]
  · rw [if_neg hm, decide_eq_false hm, Bool.false_and]
theorem same_list_of {a b : List Int} (ha : a.length = 256) (hb : b.length = 256) (h : ∀ n : Nat, n < 256 → rd a n = rd b n) : a = b := by
  refine List.ext_getElem (by omega) fun n h1 h2 => ?_
  have := h n (by omega)
  rwa [rd_at a n h1, rd_at b n h2] at this

/-- The document's loop over the lines. -/
theorem lines_loop (h : Fine rate seq shape max gs books steps l 8191) : ∀ (d k i : Nat) (out : List Int), out.length = 256 → (∀ n : Nat, n < i → rd out n = rd (eachL rate seq max gs books steps l ln) n) → (∀ n : Nat, i ≤ n → rd out n = 0) → i ≤ 256 → 256 - i = d → d + 1500 < k →
    reedpiperef14_Lines.l0 k rate books steps l out i seq shape max gs = some (eachL rate seq max gs books steps l ln, 0)
  | d, 0, _, _, _, _, _, _, _, hk => by omega
  | 0, k + 1, i, out, ho, h1, _, hi, hd, hk => by
    have e : i = 256 := by omega
    subst e
    simp only [reedpiperef14_Lines.l0]
    rw [if_neg (by omega), same_list_of ho (eachL_len ..) h1]
  | d + 1, k + 1, i, out, ho, h1, h2, hi, hd, hk => by
    simp only [reedpiperef14_Lines.l0]
    have c0 : (i : Int) < 256 := by omega
    have c1 : (0 : Int) ≤ i := by omega
    have nl := h.nl
    have ns := h.ns
    have c2 : (i : Int) < (l.length : Int) := by omega
    have c3 : (i : Int) < (out.length : Int) := by omega
    have ck : 1400 ≤ k := by omega
    obtain ⟨w, line, b, hp, w0, w1, hn, hb, b0, b1⟩ := place_ref h.may k ck (i : Int) c1 c0
    have hg := group_lt h.may w w1
    have c4 : (0 : Int) ≤ (grpOf gs w : Int) := by omega
    have c5 : (grpOf gs w : Int) < (steps.length : Int) := by omega
    have c5' : (grpOf gs w : Int) < (gs.length : Int) := by omega
    have c6 : (0 : Int) ≤ (b : Int) := by omega
    have c7 : 0 ≤ w * 32 + line := by omega
    have e : wrap64 ((i : Int) + 1) = ((i + 1 : Nat) : Int) := by clear h1 h2 hn b0 b1 hp; unfold wrap64; omega
    rw [if_pos c0, hp, e]
    clear e hp
    simp only [Option.bind_some]
    rw [sent_ref h c4 c5' c6]
    simp only [Option.bind_some]
    by_cases hs : (decide ((b : Int) < max) && sentB (rd (rdl books (grpOf gs w : Int)) (b : Int))) = true
    · have hs' := hs
      rw [Bool.and_eq_true, decide_eq_true_eq] at hs'
      have hbb := h.bk (grpOf gs w) b hg hs'.1
      have hso := sent_ok hbb hs'.2
      have hl := h.line (n := (i : Int)) c1 c0
      have hr := h.rs (grpOf gs w) hg
      have c8 : (b : Int) < ((rdl steps (grpOf gs w : Int)).length : Int) := by have := hs'.1; clear hl hso hbb hs hs' h1 h2 hn b0 b1; omega
      have cr : 24 ≤ k := by clear hl hso hbb hs hs' h1 h2 hn b0 b1 hr; omega
      have hv := line_val h ln w0 w1 hb b0 b1 c7
      rw [← hn, if_pos hs] at hv
      rw [if_pos hs, if_pos c1, if_pos c2, if_pos c4, if_pos c5, if_pos c6, rdl_is, if_pos c8, value_ref k _ _ cr hl.1 hl.2 hso.1 hso.2]
      simp only [Option.bind_some]
      rw [if_pos c3]
      clear hs hs' hbb hso hr c8 hb b0 b1 hl
      refine lines_loop h d k (i + 1) _ (by rw [List.length_set]; exact ho) (fun n hn' => ?_) (fun n hn' => ?_) (by clear hv h1 h2 hn; omega) (by clear hv h1 h2 hn; omega) (by clear hv h1 h2 hn; omega)
      · by_cases en : n = i
        · subst en
          rw [rd_set_same _ _ _ c1 c3, hv]
        · rw [rd_set_other _ _ _ _ c1 (by clear hv h1 h2 hn; omega) (by clear hv h1 h2 hn; omega)]; exact h1 n (by clear hv h1 h2 hn; omega)
      · rw [rd_set_other _ _ _ _ c1 (by clear hv h1 h2 hn; omega) (by clear hv h1 h2 hn; omega)]; exact h2 n (by clear hv h1 h2 hn; omega)
    · have hv := line_val h ln w0 w1 hb b0 b1 c7
      rw [← hn, if_neg hs] at hv
      rw [if_neg hs]
      clear hs hb b0 b1
      refine lines_loop h d k (i + 1) _ ho (fun n hn' => ?_) (fun n hn' => h2 n (by clear hv h1 h2 hn; omega)) (by clear hv h1 h2 hn; omega) (by clear hv h1 h2 hn; omega) (by clear hv h1 h2 hn; omega)
      by_cases en : n = i
      · subst en
        rw [hv]; exact h2 n (Nat.le_refl _)
      · exact h1 n (by clear hv h1 h2 hn; omega)
theorem quant_loop (h : Fine rate seq shape max gs books steps l 268435455) : ∀ (d k i : Nat) (out : List Int), out.length = 256 → (∀ n : Nat, n < i → rd out n = rd (eachL rate seq max gs books steps l qn) n) → (∀ n : Nat, i ≤ n → rd out n = 0) → i ≤ 256 → 256 - i = d → d + 9000 < k →
    reedpiperef14_Quantise.l0 k rate books steps l out i seq shape max gs = some (eachL rate seq max gs books steps l qn, 0)
  | d, 0, _, _, _, _, _, _, _, hk => by omega
  | 0, k + 1, i, out, ho, h1, _, hi, hd, hk => by
    have e : i = 256 := by omega
    subst e
    simp only [reedpiperef14_Quantise.l0]
    rw [if_neg (by omega), same_list_of ho (eachL_len ..) h1]
  | d + 1, k + 1, i, out, ho, h1, h2, hi, hd, hk => by
    simp only [reedpiperef14_Quantise.l0]
    have c0 : (i : Int) < 256 := by omega
    have c1 : (0 : Int) ≤ i := by omega
    have nl := h.nl
    have ns := h.ns
    have c2 : (i : Int) < (l.length : Int) := by omega
    have c3 : (i : Int) < (out.length : Int) := by omega
    have ck : 1400 ≤ k := by omega
    obtain ⟨w, line, b, hp, w0, w1, hn, hb, b0, b1⟩ := place_ref h.may k ck (i : Int) c1 c0
    have hg := group_lt h.may w w1
    have c4 : (0 : Int) ≤ (grpOf gs w : Int) := by omega
    have c5 : (grpOf gs w : Int) < (steps.length : Int) := by omega
    have c5' : (grpOf gs w : Int) < (gs.length : Int) := by omega
    have c6 : (0 : Int) ≤ (b : Int) := by omega
    have c7 : 0 ≤ w * 32 + line := by omega
    have e : wrap64 ((i : Int) + 1) = ((i + 1 : Nat) : Int) := by clear h1 h2 hn b0 b1 hp; unfold wrap64; omega
    rw [if_pos c0, hp, e]
    clear e hp
    simp only [Option.bind_some]
    rw [sent_ref h c4 c5' c6]
    simp only [Option.bind_some]
    by_cases hs : (decide ((b : Int) < max) && sentB (rd (rdl books (grpOf gs w : Int)) (b : Int))) = true
    · have hs' := hs
      rw [Bool.and_eq_true, decide_eq_true_eq] at hs'
      have hbb := h.bk (grpOf gs w) b hg hs'.1
      have hso := sent_ok hbb hs'.2
      have hl := h.line (n := (i : Int)) c1 c0
      have hr := h.rs (grpOf gs w) hg
      have c8 : (b : Int) < ((rdl steps (grpOf gs w : Int)).length : Int) := by have := hs'.1; clear hl hso hbb hs hs' h1 h2 hn b0 b1; omega
      have cr : 8301 ≤ k := by clear hl hso hbb hs hs' h1 h2 hn b0 b1 hr; omega
      have hv := line_val h qn w0 w1 hb b0 b1 c7
      rw [← hn, if_pos hs] at hv
      rw [if_pos hs, if_pos c1, if_pos c2, if_pos c4, if_pos c5, if_pos c6, rdl_is, if_pos c8, near_ref k _ _ cr hl.1 hl.2 hso.1 hso.2]
      simp only [Option.bind_some]
      rw [if_pos c3]
      clear hs hs' hbb hso hr c8 hb b0 b1 hl
      refine quant_loop h d k (i + 1) _ (by rw [List.length_set]; exact ho) (fun n hn' => ?_) (fun n hn' => ?_) (by clear hv h1 h2 hn; omega) (by clear hv h1 h2 hn; omega) (by clear hv h1 h2 hn; omega)
      · by_cases en : n = i
        · subst en
          rw [rd_set_same _ _ _ c1 c3, hv]
        · rw [rd_set_other _ _ _ _ c1 (by clear hv h1 h2 hn; omega) (by clear hv h1 h2 hn; omega)]; exact h1 n (by clear hv h1 h2 hn; omega)
      · rw [rd_set_other _ _ _ _ c1 (by clear hv h1 h2 hn; omega) (by clear hv h1 h2 hn; omega)]; exact h2 n (by clear hv h1 h2 hn; omega)
    · have hv := line_val h qn w0 w1 hb b0 b1 c7
      rw [← hn, if_neg hs] at hv
      rw [if_neg hs]
      clear hs hb b0 b1
      refine quant_loop h d k (i + 1) _ ho (fun n hn' => ?_) (fun n hn' => h2 n (by clear hv h1 h2 hn; omega)) (by clear hv h1 h2 hn; omega) (by clear hv h1 h2 hn; omega) (by clear hv h1 h2 hn; omega)
      by_cases en : n = i
      · subst en
        rw [hv]; exact h2 n (Nat.le_refl _)
      · exact h1 n (by clear hv h1 h2 hn; omega)
theorem rd_zeros (n : Nat) : rd (List.replicate 256 0) n = 0 := by
  unfold rd
  rw [List.getD_eq_getElem?_getD, List.getElem?_replicate]
  split <;> rfl
theorem lines_ref (hl : gs.length ≤ 1000) (k : Nat) (hk : 10000 ≤ k) : reedpiperef14_Lines.f k rate seq shape max gs books steps l = if rdy rate seq shape max gs books steps l 8191 = 0 then some (eachL rate seq max gs books steps l ln, 0) else some ([], rdy rate seq shape max gs books steps l 8191) := by
  unfold reedpiperef14_Lines.f
  rw [asked_ref 8191 (by decide) (by decide) hl k (by omega)]
  simp only [Option.bind_some]
  by_cases hr : rdy rate seq shape max gs books steps l 8191 = 0
  · rw [if_pos hr, if_pos hr, if_pos (by decide)]
    exact lines_loop (fine_of hr) 256 k 0 _ (List.length_replicate ..) (fun n h => by omega) (fun n _ => rd_zeros n) (by omega) (by omega) (by omega)
  · rw [if_neg hr, if_neg hr]
theorem quantise_ref (hl : gs.length ≤ 1000) (k : Nat) (hk : 10000 ≤ k) : reedpiperef14_Quantise.f k rate seq shape max gs books steps l = if rdy rate seq shape max gs books steps l 268435455 = 0 then some (eachL rate seq max gs books steps l qn, 0) else some ([], rdy rate seq shape max gs books steps l 268435455) := by
  unfold reedpiperef14_Quantise.f
  rw [asked_ref 268435455 (by decide) (by decide) hl k (by omega)]
  simp only [Option.bind_some]
  by_cases hr : rdy rate seq shape max gs books steps l 268435455 = 0
  · rw [if_pos hr, if_pos hr, if_pos (by decide)]
    exact quant_loop (fine_of hr) 256 k 0 _ (List.length_replicate ..) (fun n h => by omega) (fun n _ => rd_zeros n) (by omega) (by omega) (by omega)
  · rw [if_neg hr, if_neg hr]
end
end Go.Proofs.Ytcfkkdjnalbnoaa
