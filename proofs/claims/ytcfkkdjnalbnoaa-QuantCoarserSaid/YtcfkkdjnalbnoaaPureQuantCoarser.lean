/-
  reedpipelaw14.QuantCoarser's printed function answers true.
-/
import Derived.Test.YtcfkkdjnalbnoaaPrintC5
import Derived.Test.YtcfkkdjnalbnoaaQgC
import Derived.Test.YtcfkkdjnalbnoaaQb
namespace Go.Proofs.Ytcfkkdjnalbnoaa
open Go.RowKit Go.Proofs.YtcfkkdjnalbnoaaW.PrintWords Go.Proofs.YtcfkkdjnalbnoaaW.PrintLast Go.Proofs.YtcfkkdjnalbnoaaW.PrintMore PrintC

theorem rdl_is (xs : List (List Int)) (i : Int) : rd_L1 xs i = rdl xs i := rfl
theorem far_is {a : Int} (h0 : -2305843009213693952 ≤ a) (h1 : a ≤ 2305843009213693952) : reedpipelaw14_far.f a 0 = some (dist a 0) := by
  unfold reedpipelaw14_far.f dist
  have e1 : wrap64 (a - 0) = a - 0 := by unfold wrap64; omega
  have e2 : wrap64 (0 - a) = 0 - a := by unfold wrap64; omega
  rw [e1, e2]

theorem ln0_steps {q : Int} (h0 : 0 ≤ q) (h1 : q ≤ 8191) : ∀ (d : Nat) (s : Int), 0 ≤ s → s + d ≤ 255 → ln0 q s ≤ ln0 q (s + d)
  | 0, s, _, _ => by rw [show s + ((0 : Nat) : Int) = s by omega]; exact Int.le_refl _
  | d + 1, s, hs, hd => by
    have h2 := ln0_steps h0 h1 d s hs (by omega)
    have h3 := ln0_step (q := q) (step := s + d) h0 h1 (by omega) (by omega)
    rw [show s + ((d + 1 : Nat) : Int) = s + d + 1 by omega]
    exact Int.le_trans h2 h3
theorem ln0_coarser {q s t : Int} (h0 : 0 ≤ q) (h1 : q ≤ 8191) (hs : 0 ≤ s) (hst : s ≤ t) (ht : t ≤ 255) : ln0 q s ≤ ln0 q t := by
  have := ln0_steps h0 h1 (t - s).toNat s hs (by omega)
  rwa [show s + (((t - s).toNat : Nat) : Int) = t by omega] at this
theorem qn0_coarser {x s t : Int} (hs : 0 ≤ s) (hst : s ≤ t) (ht : t ≤ 255) : qn0 x t ≤ qn0 x s := by
  rcases Int.lt_or_le (qn0 x s) (qn0 x t) with h | h
  · have b1 := qn0_bd x s
    have b2 := qn0_bd x t
    have h1 := (qn0_spec x s).2 (qn0 x s) (Int.le_refl _) (by omega)
    have h2 := (qn0_spec x t).1 (qn0 x s) b1.1 h
    have h3 := ln0_coarser (q := qn0 x s) b1.1 b1.2 hs hst ht
    have h4 := ln0_coarser (q := qn0 x s + 1) (by omega) (by omega) hs hst ht
    omega
  · exact h
theorem dist_zero (a : Int) : dist a 0 = if 0 ≤ a then a else -a := by unfold dist mx; split <;> split <;> omega
theorem qn_coarser {x s t : Int} (hs : 0 ≤ s) (hst : s ≤ t) (ht : t ≤ 255) : dist (qn x t) 0 ≤ dist (qn x s) 0 := by
  rw [dist_zero, dist_zero]
  unfold qn
  by_cases hx : x < 0
  · rw [if_pos hx, if_pos hx]
    have a := qn0_bd (-x) s
    have b := qn0_bd (-x) t
    have c := qn0_coarser (x := -x) hs hst ht
    split <;> split <;> omega
  · rw [if_neg hx, if_neg hx]
    have a := qn0_bd x s
    have b := qn0_bd x t
    have c := qn0_coarser (x := x) hs hst ht
    split <;> split <;> omega
theorem ln_coarser {q s t : Int} (h0 : -8191 ≤ q) (h1 : q ≤ 8191) (hs : 0 ≤ s) (hst : s ≤ t) (ht : t ≤ 255) : dist (ln q s) 0 ≤ dist (ln q t) 0 := by
  rw [dist_zero, dist_zero]
  unfold ln
  by_cases hx : q < 0
  · rw [if_pos hx, if_pos hx]
    have a := ln0_bd (-q) s (by omega) (by omega)
    have b := ln0_bd (-q) t (by omega) (by omega)
    have c := ln0_coarser (q := -q) (by omega) (by omega) hs hst ht
    split <;> split <;> omega
  · rw [if_neg hx, if_neg hx]
    have a := ln0_bd q s (by omega) (by omega)
    have b := ln0_bd q t (by omega) (by omega)
    have c := ln0_coarser (q := q) (by omega) (by omega) hs hst ht
    split <;> split <;> omega

/-- A greater step. -/
def upS (more s : Int) : Int := if s > 255 then s else mn (wrap64 (s + wrap64 more)) 255
def up (more : Int) (steps : List (List Int)) : List (List Int) := steps.map fun r => r.map (upS more)
theorem upS_in {more s : Int} (m0 : 0 ≤ more) (m1 : more ≤ 255) (h0 : 0 ≤ s) (h1 : s ≤ 255) : s ≤ upS more s ∧ upS more s ≤ 255 := by
  unfold upS
  have e : wrap64 more = more := by unfold wrap64; omega
  have e1 : wrap64 (s + more) = s + more := by clear e; unfold wrap64; omega
  rw [if_neg (by clear e e1; omega), e, e1]
  clear e e1
  unfold mn
  split <;> omega
theorem rd_map (f : Int → Int) (l : List Int) (i : Int) (h0 : 0 ≤ i) (h : i < l.length) : rd (l.map f) i = f (rd l i) := by
  unfold rd
  rw [List.getD_eq_getElem?_getD, List.getD_eq_getElem?_getD, List.getElem?_map, List.getElem?_eq_getElem (by omega)]
  rfl
theorem rdl_up (more : Int) (steps : List (List Int)) (i : Int) (h0 : 0 ≤ i) (h : i < steps.length) : rdl (up more steps) i = (rdl steps i).map (upS more) := by
  unfold rdl up
  rw [List.getD_eq_getElem?_getD, List.getD_eq_getElem?_getD, List.getElem?_map, List.getElem?_eq_getElem (by omega)]
  rfl
theorem up_len (more : Int) (steps : List (List Int)) : (up more steps).length = steps.length := List.length_map ..

section
variable {rate seq shape max : Int} {gs : List Int} {books steps : List (List Int)} {l : List Int} {m more : Int}
theorem Fine.coarse (h : Fine rate seq shape max gs books steps l m) (m0 : 0 ≤ more) (m1 : more ≤ 255) : Fine rate seq shape max gs books (up more steps) l m := by
  refine ⟨h.may, h.nb, by rw [up_len]; exact h.ns, h.rb, fun k hk => ?_, fun k b hk hb => ?_, h.nl, h.ll⟩
  · have := h.ns
    rw [rdl_up more steps k (by omega) (by omega), List.length_map]
    exact h.rs k hk
  · have h1 := h.ns
    have h2 := h.rs k hk
    have h3 := h.bk k b hk hb
    rw [rdl_up more steps k (by omega) (by omega), rd_map _ _ _ (by omega) (by omega)]
    unfold badB at h3 ⊢
    cases hs : sentB (rd (rdl books k) b)
    · rw [hs] at h3
      rw [Bool.false_and] at h3 ⊢
      exact h3
    · have := sent_ok (show badB (rd (rdl books k) b) (rd (rdl steps k) b) = false from h3) hs
      have hu := upS_in m0 m1 this.1 this.2
      rw [hs] at h3
      rw [Bool.or_eq_false_iff] at h3 ⊢
      refine ⟨h3.1, ?_⟩
      rw [Bool.true_and, decide_eq_false_iff_not]
      omega
/-- The step of a place, and the greater one. -/
theorem Fine.coarse_step (h : Fine rate seq shape max gs books steps l m) (m0 : 0 ≤ more) (m1 : more ≤ 255) {x : Int × Int × Int} (hx : x ∈ plc rate seq max gs) (hs : sentB (rd (rdl books x.2.1) x.2.2) = true) :
    0 ≤ rd (rdl steps x.2.1) x.2.2 ∧ rd (rdl steps x.2.1) x.2.2 ≤ rd (rdl (up more steps) x.2.1) x.2.2 ∧ rd (rdl (up more steps) x.2.1) x.2.2 ≤ 255 := by
  have hb := plc_bd h.may hx
  have h1 := h.ns
  have h2 := h.rs x.2.1.toNat (by omega)
  rw [Int.toNat_of_nonneg hb.2.2.1] at h2
  have h3 := h.step hx hs
  have hu := upS_in m0 m1 h3.1 h3.2
  rw [rdl_up more steps _ hb.2.2.1 (by omega), rd_map _ _ _ hb.2.2.2.2.1 (by omega)]
  exact ⟨h3.1, hu.1, hu.2⟩

theorem coarser_q (h : Fine rate seq shape max gs books steps l m) (m0 : 0 ≤ more) (m1 : more ≤ 255) (n : Int) (h0 : 0 ≤ n) :
    dist (rd (eachL rate seq max gs books (up more steps) l qn) n) 0 ≤ dist (rd (eachL rate seq max gs books steps l qn) n) 0 := by
  rcases place_or rate seq max gs n with ⟨x, hx, rfl⟩ | hn
  · rw [eachL_in h.may books _ _ qn hx, eachL_in h.may books _ _ qn hx]
    unfold val
    by_cases hs : sentB (rd (rdl books x.2.1) x.2.2) = true
    · rw [if_pos hs, if_pos hs]
      have := h.coarse_step m0 m1 hx hs
      exact qn_coarser this.1 this.2.1 this.2.2
    · rw [if_neg hs, if_neg hs]; exact Int.le_refl _
  · rw [eachL_out h.may books _ _ qn h0 hn, eachL_out h.may books _ _ qn h0 hn]; exact Int.le_refl _
theorem coarser_l (h : Fine rate seq shape max gs books steps l 8191) (m0 : 0 ≤ more) (m1 : more ≤ 255) (n : Int) (h0 : 0 ≤ n) :
    dist (rd (eachL rate seq max gs books steps l ln) n) 0 ≤ dist (rd (eachL rate seq max gs books (up more steps) l ln) n) 0 := by
  rcases place_or rate seq max gs n with ⟨x, hx, rfl⟩ | hn
  · rw [eachL_in h.may books _ _ ln hx, eachL_in h.may books _ _ ln hx]
    unfold val
    by_cases hs : sentB (rd (rdl books x.2.1) x.2.2) = true
    · rw [if_pos hs, if_pos hs]
      have := h.coarse_step m0 m1 hx hs
      have hb := plc_bd h.may hx
      have hl := h.line hb.1 hb.2.1
      exact ln_coarser hl.1 hl.2 this.1 this.2.1 this.2.2
    · rw [if_neg hs, if_neg hs]; exact Int.le_refl _
  · rw [eachL_out h.may books _ _ ln h0 hn, eachL_out h.may books _ _ ln h0 hn]; exact Int.le_refl _
theorem turned_q (h : Fine rate seq shape max gs books steps l m) {t : List Int} (ht : ∀ n : Int, 0 ≤ n → n < 256 → rd t n = -rd l n) (n : Int) (h0 : 0 ≤ n) :
    rd (eachL rate seq max gs books steps t qn) n = -rd (eachL rate seq max gs books steps l qn) n := by
  rcases place_or rate seq max gs n with ⟨x, hx, rfl⟩ | hn
  · have hb := plc_bd h.may hx
    rw [eachL_in h.may books _ _ qn hx, eachL_in h.may books _ _ qn hx]
    unfold val
    by_cases hs : sentB (rd (rdl books x.2.1) x.2.2) = true
    · rw [if_pos hs, if_pos hs, ht x.1 hb.1 hb.2.1]
      exact qn_neg _ _
    · rw [if_neg hs, if_neg hs]; rfl
  · rw [eachL_out h.may books _ _ qn h0 hn, eachL_out h.may books _ _ qn h0 hn]; rfl
end

theorem coarser_l3 (q r s a b : List Int) (lq : q.length = 256) (lr : r.length = 256) (ls : s.length = 256) (la : a.length = 256) (lb : b.length = 256)
    (bq : ∀ n : Int, 0 ≤ n → n < 256 → -8191 ≤ rd q n ∧ rd q n ≤ 8191) (br : ∀ n : Int, 0 ≤ n → n < 256 → -8191 ≤ rd r n ∧ rd r n ≤ 8191) (ba : ∀ n : Int, 0 ≤ n → n < 256 → -268435455 ≤ rd a n ∧ rd a n ≤ 268435455) (bb : ∀ n : Int, 0 ≤ n → n < 256 → -268435455 ≤ rd b n ∧ rd b n ≤ 268435455)
    (h1 : ∀ n : Int, 0 ≤ n → dist (rd r n) 0 ≤ dist (rd q n) 0) (h2 : ∀ n : Int, 0 ≤ n → dist (rd a n) 0 ≤ dist (rd b n) 0) (h3 : ∀ n : Int, 0 ≤ n → rd s n = -rd q n) :
    ∀ (d k i : Nat), i ≤ 256 → 256 - i = d → d < k → reedpipelaw14_QuantCoarser.l3 k true q r s a b i = some true
  | d, 0, _, _, _, hk => by omega
  | 0, k + 1, i, hi, hd, _ => by
    have e : i = 256 := by omega
    subst e
    simp only [reedpipelaw14_QuantCoarser.l3]
    rw [if_neg (by omega)]
  | d + 1, k + 1, i, hi, hd, hk => by
    simp only [reedpipelaw14_QuantCoarser.l3]
    have c0 : (i : Int) < 256 := by omega
    have c1 : (0 : Int) ≤ i := by omega
    have b1 := bq i c1 c0
    have f1 : reedpipelaw14_far.f (rd q i) 0 = some (dist (rd q i) 0) := far_is (by omega) (by omega)
    have f2 : reedpipelaw14_far.f (rd r i) 0 = some (dist (rd r i) 0) := by have b2 := br i c1 c0; exact far_is (by omega) (by omega)
    have f3 : reedpipelaw14_far.f (rd a i) 0 = some (dist (rd a i) 0) := by have b3 := ba i c1 c0; exact far_is (by omega) (by omega)
    have f4 : reedpipelaw14_far.f (rd b i) 0 = some (dist (rd b i) 0) := by have b4 := bb i c1 c0; exact far_is (by omega) (by omega)
    have c2 : (i : Int) < (r.length : Int) := by omega
    have c3 : (i : Int) < (q.length : Int) := by omega
    have c4 : (i : Int) < (b.length : Int) := by omega
    have c5 : (i : Int) < (a.length : Int) := by omega
    have c6 : (i : Int) < (s.length : Int) := by omega
    have e1 : wrap64 (-rd q i) = -rd q i := by unfold wrap64; omega
    have e : wrap64 ((i : Int) + 1) = ((i + 1 : Nat) : Int) := by clear e1 b1; unfold wrap64; omega
    have d1 := h1 i c1
    have d2 := h2 i c1
    have d3 := h3 i c1
    rw [if_pos c0, if_pos c1, if_pos c2, f2]
    simp only [Option.bind_some]
    rw [if_pos c3, f1]
    simp only [Option.bind_some]
    rw [if_neg (Int.not_lt.2 d1), if_pos c4, f4]
    simp only [Option.bind_some]
    rw [if_pos c5, f3]
    simp only [Option.bind_some]
    rw [if_neg (Int.not_lt.2 d2), if_pos c6, e1, if_pos d3, e]
    clear e e1 d1 d2 d3
    exact coarser_l3 q r s a b lq lr ls la lb bq br ba bb h1 h2 h3 d k (i + 1) (by omega) (by omega) (by omega)

section
variable {rate seq shape max : Int} {gs : List Int} {books steps : List (List Int)} {l : List Int} {more : Int}

theorem coarser_end (h : Fine rate seq shape max gs books steps l 268435455) (hs : 0 ≤ seq ∧ seq ≤ 255) (hz : sized gs books steps l) (m0 : 0 ≤ more) (m1 : more ≤ 255) :
    ∀ (d k i : Nat) (t : List Int), t.length = 256 → (∀ n : Int, 0 ≤ n → n < i → rd t n = -rd l n) → i ≤ 256 → 256 - i = d → d + 270 < k →
      reedpipelaw14_QuantCoarser.l2 k rate books steps l true (eachL rate seq max gs books steps l qn) (up more steps) t i seq shape max gs = some true
  | d, 0, _, _, _, _, _, _, hk => by omega
  | 0, k + 1, i, t, ht, hti, hi, hd, hk => by
    have e : i = 256 := by omega
    subst e
    simp only [reedpipelaw14_QuantCoarser.l2]
    have fu := h.coarse m0 m1 (more := more)
    have fq := h.q
    have ft : Fine rate seq shape max gs books steps t 268435455 := h.lines ht (fun k hk => by
      have := h.ll k hk
      rw [hti k (by omega) (by omega)]
      omega)
    have fuq := fq.coarse m0 m1 (more := more)
    have zu : sized gs books (up more steps) l := ⟨hz.1, hz.2.1, by rw [up_len]; exact hz.2.2.1, hz.2.2.2⟩
    have nl := h.nl
    rw [if_neg (by omega), quant_fine fu hs zu]
    simp only [Option.bind_some]
    rw [quant_fine ft hs (sized_lines hz ht)]
    simp only [Option.bind_some]
    rw [lines_fine fq hs (sized_lines hz fq.nl)]
    simp only [Option.bind_some]
    rw [lines_fine fuq hs (sized_lines zu fq.nl)]
    simp only [Option.bind_some, if_true]
    rw [eachL_len, eachL_len, eachL_len, eachL_len, eachL_len]
    have e256 : ((256 : Nat) : Int) = 256 := rfl
    rw [if_pos e256, if_pos e256, if_pos e256, if_pos e256]
    obtain ⟨k, rfl⟩ : ∃ j, k = j + 1 := ⟨k - 1, by omega⟩
    simp only [reedpipelaw14_QuantCoarser.j4]
    rw [if_neg (by decide)]
    refine coarser_l3 _ _ _ _ _ fq.nl (eachL_len ..) (eachL_len ..) (eachL_len ..) (eachL_len ..) (fun n a b => fq.line a b) (fun n a b => fu.q.line a b) (fun n a b => fq.v.line a b) (fun n a b => fuq.v.line a b) ?_ ?_ ?_ 256 k 0 (by omega) (by omega) (by omega)
    · exact fun n h0 => coarser_q h m0 m1 n h0
    · exact fun n h0 => coarser_l fq m0 m1 n h0
    · exact fun n h0 => turned_q h hti n h0
  | d + 1, k + 1, i, t, ht, hti, hi, hd, hk => by
    simp only [reedpipelaw14_QuantCoarser.l2]
    have nl := h.nl
    have bl := h.line (n := (i : Int)) (by omega) (by omega)
    have c0 : (i : Int) < (l.length : Int) := by omega
    have c1 : (0 : Int) ≤ i := by omega
    have c2 : (i : Int) < (t.length : Int) := by omega
    have e1 : wrap64 (-rd l i) = -rd l i := by clear c0 c1 c2; unfold wrap64; omega
    rw [if_pos c0, if_pos c1, if_pos c2, e1]
    clear e1
    have e : wrap64 ((i : Int) + 1) = ((i + 1 : Nat) : Int) := by clear bl c0 c1 c2; unfold wrap64; omega
    rw [e]
    clear e
    refine coarser_end h hs hz m0 m1 d k (i + 1) _ (by rw [List.length_set]; exact ht) (fun n h0 h1 => ?_) (by omega) (by omega) (by omega)
    by_cases en : (i : Int) = n
    · subst en
      exact rd_set_same _ _ _ c1 c2
    · rw [rd_set_other _ _ _ _ c1 h0 en]
      exact hti n h0 (by omega)

theorem take_map_succ (f : Int → Int) (r : List Int) (i : Nat) (h : i < r.length) : (r.take i).map f ++ [f (rd r i)] = (r.take (i + 1)).map f := by
  rw [List.take_succ_eq_append_getElem h, List.map_append, rd_at r i h]; rfl
theorem coarser_l1 (F : Nat) (x q : List Int) (acc : List (List Int)) (g : Nat) (hg : g < steps.length) (hg1 : g ≤ 100) (hr : (rdl steps g).length ≤ 100) (ha : acc.length ≤ 100)
    (next : ∀ k, F ≤ k → reedpipelaw14_QuantCoarser.l0 k rate books steps x more true q (acc ++ [(rdl steps g).map (upS more)]) ((g + 1 : Nat) : Int) seq shape max gs = some true) :
    ∀ (d k i : Nat) (o : List Int), o = ((rdl steps g).take i).map (upS more) → i ≤ (rdl steps g).length → (rdl steps g).length - i = d → d + F < k → reedpipelaw14_QuantCoarser.l1 k rate books steps x more true q acc g o i seq shape max gs = some true
  | d, 0, _, _, _, _, _, hk => by omega
  | 0, k + 1, i, o, ho, hi, hd, hk => by
    have e : i = (rdl steps g).length := by omega
    simp only [reedpipelaw14_QuantCoarser.l1]
    rw [if_pos (by omega), if_pos (by omega), rdl_is, if_neg (by omega), if_pos (by omega)]
    have e1 : wrap64 ((g : Int) + 1) = ((g + 1 : Nat) : Int) := by unfold wrap64; omega
    rw [e1, ho, e, List.take_length]
    exact next k (by omega)
  | d + 1, k + 1, i, o, ho, hi, hd, hk => by
    have hol : o.length = i := by rw [ho, List.length_map, List.length_take]; omega
    have hil : i < (rdl steps g).length := by omega
    simp only [reedpipelaw14_QuantCoarser.l1]
    rw [if_pos (by omega), if_pos (by omega), rdl_is, if_pos (by omega), if_pos (by omega), if_pos (by omega)]
    simp only [Option.bind_some]
    have e1 : wrap64 ((i : Int) + 1) = ((i + 1 : Nat) : Int) := by unfold wrap64; omega
    rw [e1]
    clear e1
    by_cases hs : rd (rdl steps g) i > 255
    · rw [if_pos hs, if_pos (by rw [List.length_append, List.length_singleton]; omega)]
      refine coarser_l1 F x q acc g hg hg1 hr ha next d k (i + 1) _ ?_ (by omega) (by omega) (by omega)
      rw [← take_map_succ _ _ _ hil, ← ho]
      rw [show ((i : Int)).toNat = o.length by omega]
      rw [List.set_append_right _ _ (Nat.le_refl _), Nat.sub_self]
      unfold upS
      rw [if_pos hs]
      rfl
    · rw [if_neg hs]
      refine coarser_l1 F x q acc g hg hg1 hr ha next d k (i + 1) _ ?_ (by omega) (by omega) (by omega)
      rw [← take_map_succ _ _ _ hil, ← ho]
      unfold upS
      rw [if_neg hs]
theorem take_up (steps : List (List Int)) (g : Nat) (h : g < steps.length) : up more (steps.take g) ++ [(rdl steps g).map (upS more)] = up more (steps.take (g + 1)) := by
  unfold up
  rw [List.take_succ_eq_append_getElem h, List.map_append, rdl_at steps g h]; rfl
theorem coarser_l0 (F : Nat) (x q : List Int) (hx : x.length = 256) (hn : steps.length ≤ 100) (hr : ∀ k : Nat, k < steps.length → (rdl steps k).length ≤ 40)
    (next : ∀ k, F ≤ k → reedpipelaw14_QuantCoarser.l2 k rate books steps x true q (up more steps) (List.replicate 256 0) 0 seq shape max gs = some true) :
    ∀ (d k g : Nat), g ≤ steps.length → steps.length - g = d → d * 50 + F < k → reedpipelaw14_QuantCoarser.l0 k rate books steps x more true q (up more (steps.take g)) g seq shape max gs = some true
  | d, 0, _, _, _, hk => by omega
  | 0, k + 1, g, hg, hd, hk => by
    have e : g = steps.length := by omega
    subst e
    simp only [reedpipelaw14_QuantCoarser.l0]
    rw [if_neg (by omega), if_pos (by omega), List.take_length]
    have e1 : ((x.length : Int)).toNat = 256 := by omega
    rw [e1, if_pos (by decide)]
    exact next k (by omega)
  | d + 1, k + 1, g, hg, hd, hk => by
    simp only [reedpipelaw14_QuantCoarser.l0]
    rw [if_pos (by omega)]
    have h1 := hr g (by omega)
    refine coarser_l1 (d * 50 + F + 1) x q _ g (by omega) (by omega) (by omega) (by rw [up_len, List.length_take]; omega) (fun k hk => ?_) (rdl steps g).length k 0 [] (by rw [List.take_zero]; rfl) (by omega) (by omega) (by omega)
    rw [take_up steps g (by omega)]
    exact coarser_l0 F x q hx hn hr next d k (g + 1) (by omega) (by omega) (by omega)
end

theorem pureCoarser (rate seq shape max : Int) (gs : List Int) (books steps : List (List Int)) (x : List Int) (more : Int) (hs0 : 0 ≤ seq) (hs1 : seq ≤ 255) (m0 : 0 ≤ more) (m1 : more ≤ 255) :
    reedpipelaw14_QuantCoarser.f 2000 rate seq shape max gs books steps x more = some true := by
  unfold reedpipelaw14_QuantCoarser.f
  rw [alive14]
  simp only [Option.bind_some]
  rcases great_is 2000 (by omega) seq shape max gs books steps x with hg | ⟨hg, g0, g1, g2, g3⟩
  · rw [hg]
    simp only [Option.bind_some, if_true]
    simp only [reedpipelaw14_QuantCoarser.j0, if_true]
  · rw [hg]
    simp only [Option.bind_some]
    rw [if_neg (by decide)]
    simp only [reedpipelaw14_QuantCoarser.j0]
    rw [if_neg (by decide)]
    have hz := sized_of g0 g1 g2 g3
    by_cases hr : rdy rate seq shape max gs books steps x 268435455 = 0
    · have h := fine_of hr
      rw [quant_fine h ⟨hs0, hs1⟩ hz]
      simp only [Option.bind_some, if_true]
      have hl := may_len h.may
      have hns := h.ns
      refine coarser_l0 (steps := steps) 600 x _ h.nl g2 (fun k hk => ?_) (fun k hk => ?_) steps.length 1999 0 (by omega) (by omega) (by omega)
      · have := h.rs k (by omega)
        have h2 := h.may.m1
        have h3 := (offs_len h.may.r0 h.may.r1 (seq == 2)).2.1
        unfold bands at h2
        omega
      · exact coarser_end h ⟨hs0, hs1⟩ hz m0 m1 256 k 0 _ (List.length_replicate ..) (fun n h0 h1 => by omega) (by omega) (by omega) (by omega)
    · rw [quant_not hr ⟨hs0, hs1⟩ hz]
      simp only [Option.bind_some]
      rw [if_neg hr]
end Go.Proofs.Ytcfkkdjnalbnoaa
