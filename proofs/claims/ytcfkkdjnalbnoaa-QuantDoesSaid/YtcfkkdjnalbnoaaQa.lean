/-
  What quant's lines are, place by place.
-/
import Derived.Test.YtcfkkdjnalbnoaaHe
import Derived.Test.YtcfkkdjnalbnoaaM3
namespace Go.Proofs.Ytcfkkdjnalbnoaa
open Go.RowKit Go.Proofs.YtcfkkdjnalbnoaaW.PrintWords Go.Proofs.YtcfkkdjnalbnoaaW.PrintLast Go.Proofs.YtcfkkdjnalbnoaaW.PrintMore

/-- The place of a line, if there is one. -/
def plAt (rate seq max : Int) (gs : List Int) (n : Int) : Option (Int × Int × Int) := (plc rate seq max gs).find? fun x => x.1 == n
/-- What a place's line comes to. -/
def val (books steps : List (List Int)) (l : List Int) (h : Int → Int → Int) (x : Int × Int × Int) : Int :=
  if sentB (rd (rdl books x.2.1) x.2.2) = true then h (rd l x.1) (rd (rdl steps x.2.1) x.2.2) else 0

theorem rd_set_same (l : List Int) (i v : Int) (h0 : 0 ≤ i) (h1 : i < l.length) : rd (l.set i.toNat v) i = v := by
  unfold rd; rw [List.getD_eq_getElem?_getD, List.getElem?_set_self (by omega)]; rfl
theorem rd_set_other (l : List Int) (i j v : Int) (h0 : 0 ≤ i) (h1 : 0 ≤ j) (h : i ≠ j) : rd (l.set i.toNat v) j = rd l j := by
  unfold rd; rw [List.getD_eq_getElem?_getD, List.getElem?_set_ne (by omega), ← List.getD_eq_getElem?_getD]

theorem fold_out (books steps : List (List Int)) (l : List Int) (h : Int → Int → Int) (n : Int) (h0 : 0 ≤ n) : ∀ (xs : List (Int × Int × Int)) (out : List Int), (∀ y ∈ xs, 0 ≤ y.1) → (∀ y ∈ xs, y.1 ≠ n) →
    rd (xs.foldl (putP books steps l h) out) n = rd out n
  | [], _, _, _ => rfl
  | y :: xs, out, hp, hn => by
    rw [List.foldl_cons, fold_out books steps l h n h0 xs _ (fun z hz => hp z (List.mem_cons_of_mem _ hz)) (fun z hz => hn z (List.mem_cons_of_mem _ hz))]
    unfold putP
    split
    · exact rd_set_other _ _ _ _ (hp y (List.mem_cons_self ..)) h0 (hn y (List.mem_cons_self ..))
    · rfl
theorem fold_stay (books steps : List (List Int)) (l : List Int) (h : Int → Int → Int) (x : Int × Int × Int) (h0 : 0 ≤ x.1) : ∀ (xs : List (Int × Int × Int)) (out : List Int), (∀ y ∈ xs, 0 ≤ y.1) → (∀ y ∈ xs, y.1 = x.1 → y = x) → x.1 < out.length →
    rd out x.1 = val books steps l h x → rd (xs.foldl (putP books steps l h) out) x.1 = val books steps l h x
  | [], _, _, _, _, hv => hv
  | y :: xs, out, hp, hn, hl, hv => by
    rw [List.foldl_cons]
    refine fold_stay books steps l h x h0 xs _ (fun z hz => hp z (List.mem_cons_of_mem _ hz)) (fun z hz => hn z (List.mem_cons_of_mem _ hz)) (by rw [putP_len]; exact hl) ?_
    unfold putP
    split
    · rename_i hs
      by_cases e : y.1 = x.1
      · have := hn y (List.mem_cons_self ..) e
        subst this
        rw [rd_set_same _ _ _ h0 hl]
        unfold val
        rw [if_pos hs]
      · rw [rd_set_other _ _ _ _ (hp y (List.mem_cons_self ..)) h0 e]; exact hv
    · exact hv
theorem fold_in (books steps : List (List Int)) (l : List Int) (h : Int → Int → Int) (x : Int × Int × Int) (h0 : 0 ≤ x.1) : ∀ (xs : List (Int × Int × Int)) (out : List Int), (∀ y ∈ xs, 0 ≤ y.1) → (∀ y ∈ xs, y.1 = x.1 → y = x) → x.1 < out.length →
    rd out x.1 = 0 → x ∈ xs → rd (xs.foldl (putP books steps l h) out) x.1 = val books steps l h x
  | [], _, _, _, _, _, hm => by cases hm
  | y :: xs, out, hp, hn, hl, hv, hm => by
    rw [List.foldl_cons]
    have hp' : ∀ z ∈ xs, 0 ≤ z.1 := fun z hz => hp z (List.mem_cons_of_mem _ hz)
    have hn' : ∀ z ∈ xs, z.1 = x.1 → z = x := fun z hz => hn z (List.mem_cons_of_mem _ hz)
    by_cases e : y.1 = x.1
    · have e' := hn y (List.mem_cons_self ..) e
      subst e'
      refine fold_stay books steps l h y h0 xs _ hp' hn' (by rw [putP_len]; exact hl) ?_
      unfold putP val
      split
      · rw [rd_set_same _ _ _ h0 hl]
      · exact hv
    · refine fold_in books steps l h x h0 xs _ hp' hn' (by rw [putP_len]; exact hl) ?_ ?_
      · unfold putP
        split
        · rw [rd_set_other _ _ _ _ (hp y (List.mem_cons_self ..)) h0 e]; exact hv
        · exact hv
      · rcases List.mem_cons.1 hm with hm | hm
        · subst hm; exact absurd rfl e
        · exact hm

theorem plc_mem {rate seq max : Int} {gs : List Int} {x : Int × Int × Int} : x ∈ plc rate seq max gs ↔
    ∃ v b j : Nat, v < wins seq ∧ b < max.toNat ∧ j < wd (offs rate (seq == 2)) b ∧ x = ((v : Int) * 32 + (rd (offs rate (seq == 2)) b + (j : Int)), (grpOf gs v : Int), (b : Int)) := by
  unfold plc plW plB plN
  simp only [List.mem_flatMap, List.mem_range, List.mem_map]
  constructor
  · rintro ⟨v, hv, b, hb, j, hj, e⟩; exact ⟨v, b, j, hv, hb, hj, e.symm⟩
  · rintro ⟨v, b, j, hv, hb, hj, e⟩; exact ⟨v, hv, b, hb, j, hj, e.symm⟩

theorem offs_le {rate : Int} (h0 : 0 ≤ rate) (h1 : rate ≤ 11) (short : Bool) : ∀ (d b : Nat), b + d + 1 ≤ (offs rate short).length → rd (offs rate short) b ≤ rd (offs rate short) ((b + d : Nat) : Int)
  | 0, b, _ => Int.le_refl _
  | d + 1, b, h => by
    have h2 := offs_le h0 h1 short d b (by omega)
    have h3 := offs_up h0 h1 short (b + d) (by omega)
    have e : ((b + (d + 1) : Nat) : Int) = ((b + d : Nat) : Int) + 1 := by omega
    rw [e]; omega
theorem offs_one {rate : Int} (h0 : 0 ≤ rate) (h1 : rate ≤ 11) (short : Bool) {b c : Nat} {n : Int} (hb : b + 1 < (offs rate short).length) (hc : c + 1 < (offs rate short).length)
    (b0 : rd (offs rate short) b ≤ n) (b1 : n < rd (offs rate short) ((b : Int) + 1)) (c0 : rd (offs rate short) c ≤ n) (c1 : n < rd (offs rate short) ((c : Int) + 1)) : b = c := by
  rcases Nat.lt_trichotomy b c with h | h | h
  · have := offs_le h0 h1 short (c - (b + 1)) (b + 1) (by omega)
    have e : ((b + 1 + (c - (b + 1)) : Nat) : Int) = (c : Int) := by omega
    have e2 : ((b + 1 : Nat) : Int) = (b : Int) + 1 := by omega
    rw [e, e2] at this; omega
  · exact h
  · have := offs_le h0 h1 short (b - (c + 1)) (c + 1) (by omega)
    have e : ((c + 1 + (b - (c + 1)) : Nat) : Int) = (b : Int) := by omega
    have e2 : ((c + 1 : Nat) : Int) = (c : Int) + 1 := by omega
    rw [e, e2] at this; omega

theorem wd_lt {rate : Int} (h0 : 0 ≤ rate) (h1 : rate ≤ 11) (short : Bool) {b j : Nat} (hb : b + 1 < (offs rate short).length) : j < wd (offs rate short) b ↔ rd (offs rate short) b + (j : Int) < rd (offs rate short) ((b : Int) + 1) := by
  have := offs_up h0 h1 short b hb
  unfold wd
  omega

/-- A place, by its window, band and number. -/
theorem plc_bd {rate seq shape max : Int} {gs : List Int} (h : MayBe rate seq shape max gs) {x : Int × Int × Int} (hx : x ∈ plc rate seq max gs) :
    0 ≤ x.1 ∧ x.1 < 256 ∧ 0 ≤ x.2.1 ∧ x.2.1 < gs.length ∧ 0 ≤ x.2.2 ∧ x.2.2 < max := by
  obtain ⟨v, b, j, hv, hb, hj, rfl⟩ := plc_mem.1 hx
  have hm := h.m1
  have hm0 := h.m0
  unfold bands at hm
  have hb' : b + 1 < (offs rate (seq == 2)).length := by omega
  have hu := offs_up h.r0 h.r1 (seq == 2) b hb'
  have hj' := (wd_lt h.r0 h.r1 (seq == 2) hb').1 hj
  have hg := group_lt h (v : Int) (by omega)
  unfold wins at hv
  by_cases hs : seq = 2
  · rw [if_pos hs] at hv
    have e : (seq == 2) = true := by rw [hs]; rfl
    rw [e] at hu hj' ⊢
    simp only [if_true] at hu
    refine ⟨by simp only; omega, by simp only; omega, by simp only; omega, by simp only; omega, by simp only; omega, by simp only; omega⟩
  · rw [if_neg hs] at hv
    have e : (seq == 2) = false := by rw [beq_eq_false_iff_ne]; exact hs
    rw [e] at hu hj' ⊢
    simp only [Bool.false_eq_true, if_false] at hu
    refine ⟨by simp only; omega, by simp only; omega, by simp only; omega, by simp only; omega, by simp only; omega, by simp only; omega⟩

theorem plc_one {rate seq shape max : Int} {gs : List Int} (h : MayBe rate seq shape max gs) {x y : Int × Int × Int} (hx : x ∈ plc rate seq max gs) (hy : y ∈ plc rate seq max gs) (e : y.1 = x.1) : y = x := by
  obtain ⟨v, b, j, hv, hb, hj, rfl⟩ := plc_mem.1 hx
  obtain ⟨v', b', j', hv', hb', hj', rfl⟩ := plc_mem.1 hy
  have hm := h.m1
  unfold bands at hm
  have hb1 : b + 1 < (offs rate (seq == 2)).length := by omega
  have hb2 : b' + 1 < (offs rate (seq == 2)).length := by omega
  have hu := offs_up h.r0 h.r1 (seq == 2) b hb1
  have hu' := offs_up h.r0 h.r1 (seq == 2) b' hb2
  have hj1 := (wd_lt h.r0 h.r1 (seq == 2) hb1).1 hj
  have hj2 := (wd_lt h.r0 h.r1 (seq == 2) hb2).1 hj'
  simp only at e
  have ev : v' = v := by
    unfold wins at hv hv'
    by_cases hs : seq = 2
    · rw [if_pos hs] at hv hv'
      have e : (seq == 2) = true := by rw [hs]; rfl
      rw [e] at hu hu' hj1 hj2
      simp only [if_true] at hu hu'
      simp only [e] at *
      omega
    · rw [if_neg hs] at hv hv'
      omega
  subst ev
  have eb := offs_one h.r0 h.r1 (seq == 2) (n := rd (offs rate (seq == 2)) b + (j : Int)) hb1 hb2 (by omega) hj1 (by omega) (by omega)
  subst eb
  have ej : j' = j := by omega
  subst ej
  rfl

/-- A line that has a place. -/
theorem eachL_in {rate seq shape max : Int} {gs : List Int} (hmay : MayBe rate seq shape max gs) (books steps : List (List Int)) (l : List Int) (h : Int → Int → Int) {x : Int × Int × Int} (hx : x ∈ plc rate seq max gs) :
    rd (eachL rate seq max gs books steps l h) x.1 = val books steps l h x := by
  have hb := plc_bd hmay hx
  unfold eachL
  refine fold_in books steps l h x hb.1 _ z256 (fun y hy => (plc_bd hmay hy).1) (fun y hy e => plc_one hmay hx hy e) (by unfold z256; rw [List.length_replicate]; omega) ?_ hx
  unfold rd z256
  rw [List.getD_eq_getElem?_getD, List.getElem?_replicate]
  split <;> rfl
/-- A line that has none. -/
theorem eachL_out {rate seq shape max : Int} {gs : List Int} (hmay : MayBe rate seq shape max gs) (books steps : List (List Int)) (l : List Int) (h : Int → Int → Int) {n : Int} (h0 : 0 ≤ n) (hn : ∀ x ∈ plc rate seq max gs, x.1 ≠ n) :
    rd (eachL rate seq max gs books steps l h) n = 0 := by
  unfold eachL
  rw [fold_out books steps l h n h0 _ _ (fun y hy => (plc_bd hmay hy).1) hn]
  unfold rd z256
  rw [List.getD_eq_getElem?_getD, List.getElem?_replicate]
  split <;> rfl
theorem eachL_len (rate seq max : Int) (gs : List Int) (books steps : List (List Int)) (l : List Int) (h : Int → Int → Int) : (eachL rate seq max gs books steps l h).length = 256 := by
  unfold eachL; rw [fold_len]; unfold z256; rw [List.length_replicate]
/-- Either it has a place, or it has none. -/
theorem place_or (rate seq max : Int) (gs : List Int) (n : Int) : (∃ x ∈ plc rate seq max gs, x.1 = n) ∨ (∀ x ∈ plc rate seq max gs, x.1 ≠ n) := by
  by_cases h : ∃ x ∈ plc rate seq max gs, x.1 = n
  · exact .inl h
  · exact .inr fun x hx e => h ⟨x, hx, e⟩
/-- All lines are so great at most. -/
theorem eachL_bd {rate seq shape max : Int} {gs : List Int} (hmay : MayBe rate seq shape max gs) (books steps : List (List Int)) (l : List Int) (h : Int → Int → Int) (m : Int) (hm : 0 ≤ m) (hh : ∀ x ∈ plc rate seq max gs, sentB (rd (rdl books x.2.1) x.2.2) = true → -m ≤ h (rd l x.1) (rd (rdl steps x.2.1) x.2.2) ∧ h (rd l x.1) (rd (rdl steps x.2.1) x.2.2) ≤ m) (n : Int) (h0 : 0 ≤ n) :
    -m ≤ rd (eachL rate seq max gs books steps l h) n ∧ rd (eachL rate seq max gs books steps l h) n ≤ m := by
  rcases place_or rate seq max gs n with ⟨x, hx, rfl⟩ | hn
  · rw [eachL_in hmay books steps l h hx]
    unfold val
    split
    · rename_i hs; exact hh x hx hs
    · omega
  · rw [eachL_out hmay books steps l h h0 hn]; omega
end Go.Proofs.Ytcfkkdjnalbnoaa
