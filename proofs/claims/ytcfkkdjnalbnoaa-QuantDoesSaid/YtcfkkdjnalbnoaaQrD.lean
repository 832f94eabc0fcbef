/-
  The document's answer for windows: what its printed functions come to.
-/
import Derived.Test.YtcfkkdjnalbnoaaPrintD1
import Derived.Test.YtcfkkdjnalbnoaaPrintD2
import Derived.Test.YtcfkkdjnalbnoaaPrintD2
import Derived.Test.YtcfkkdjnalbnoaaQb
namespace Go.Proofs.Ytcfkkdjnalbnoaa
open Go.RowKit Go.Proofs.YtcfkkdjnalbnoaaW.PrintWords Go.Proofs.YtcfkkdjnalbnoaaW.PrintLast Go.Proofs.YtcfkkdjnalbnoaaW.PrintMore PrintD

theorem offs_all : ∀ r, r < 12 → ∀ short : Bool, reedpiperef06_Offsets.f 400 (r : Nat) short = some (offs (r : Nat) short) := by decide +kernel
theorem offs_ref {rate : Int} (h0 : 0 ≤ rate) (h1 : rate ≤ 11) (short : Bool) (k : Nat) (hk : 400 ≤ k) : reedpiperef06_Offsets.f k rate short = some (offs rate short) := by
  have h := offs_all rate.toNat (by omega) short
  rw [Int.toNat_of_nonneg h0] at h
  exact at_rounds (fun k => reedpiperef06_Offsets.mono _ _ k) hk h
theorem many_ref {rate : Int} (h0 : 0 ≤ rate) (h1 : rate ≤ 11) (short : Bool) (k : Nat) (hk : 400 ≤ k) : reedpiperef06_Many.f k rate short = some (bands rate short, 0) := by
  have hl := offs_len h0 h1 short
  unfold reedpiperef06_Many.f reedpiperef06_Told.f
  rw [if_neg (by omega), if_neg (by omega), offs_ref h0 h1 short k hk]
  simp only [Option.bind_some, if_true]
  unfold bands
  have e : wrap64 (((offs rate short).length : Int) - 1) = ((offs rate short).length : Int) - 1 := by unfold wrap64; omega
  rw [e]

/-- Groups that fill so much. -/
def fills : Int → List Int → Bool
  | x, [] => x == 0
  | x, g :: r => if g < 1 then false else if g > x then false else fills (x - g) r
theorem fills_is : ∀ (gs : List Int) (x : Int), 0 ≤ x → (fills x gs = true ↔ ((∀ g ∈ gs, 1 ≤ g) ∧ sumI gs = x))
  | [], x, _ => by
    simp only [fills, sumI, beq_iff_eq, List.not_mem_nil, false_implies, implies_true, true_and]
    exact ⟨fun h => h.symm, fun h => h.symm⟩
  | g :: r, x, hx => by
    have pos : ∀ (r : List Int), (∀ g ∈ r, 1 ≤ g) → 0 ≤ sumI r := by
      intro r
      induction r with
      | nil => intro _; exact Int.le_refl _
      | cons a r ih => intro h; have := ih (fun g hg => h g (List.mem_cons_of_mem _ hg)); have := h a (List.mem_cons_self ..); simp only [sumI]; omega
    simp only [fills, sumI, List.forall_mem_cons]
    by_cases h1 : g < 1
    · rw [if_pos h1]
      exact ⟨fun h => (by cases h), fun h => by omega⟩
    · rw [if_neg h1]
      by_cases h2 : g > x
      · rw [if_pos h2]
        exact ⟨fun h => (by cases h), fun h => by have := pos r h.1.2; omega⟩
      · rw [if_neg h2, fills_is r (x - g) (by omega)]
        exact ⟨fun h => ⟨⟨by omega, h.1⟩, by omega⟩, fun h => ⟨h.1.2, by omega⟩⟩
theorem sum_len : ∀ (gs : List Int), (∀ g ∈ gs, 1 ≤ g) → (gs.length : Int) ≤ sumI gs ∧ ∀ g ∈ gs, g ≤ sumI gs
  | [], _ => ⟨Int.le_refl _, fun g h => by cases h⟩
  | a :: r, h => by
    have h1 := sum_len r (fun g hg => h g (List.mem_cons_of_mem _ hg))
    have h2 := h a (List.mem_cons_self ..)
    simp only [sumI, List.length_cons]
    refine ⟨by omega, fun g hg => ?_⟩
    rcases List.mem_cons.1 hg with e | e
    · subst e; omega
    · have := h1.2 g e; omega
theorem fills_eight (gs : List Int) : fills 8 gs = ((gs.all fun g => decide (1 ≤ g) && decide (g ≤ 8)) && (decide (sumI gs = 8) && decide (gs.length ≤ 8))) := by
  rw [Bool.eq_iff_iff, fills_is gs 8 (by decide)]
  simp only [Bool.and_eq_true, decide_eq_true_eq, List.all_eq_true]
  constructor
  · rintro ⟨h1, h2⟩
    have := sum_len gs h1
    exact ⟨fun g hg => ⟨h1 g hg, by have := this.2 g hg; omega⟩, h2, by omega⟩
  · rintro ⟨h1, h2, _⟩
    exact ⟨fun g hg => (h1 g hg).1, h2⟩
theorem drop_at (gs : List Int) (i : Nat) (h : i < gs.length) : gs.drop i = rd gs i :: gs.drop (i + 1) := by
  rw [List.drop_eq_getElem_cons h, rd_at gs i h]
theorem may_loop (a b c : Int) (gs : List Int) (hl : gs.length ≤ 1000) : ∀ (d k i : Nat) (x : Int), 0 ≤ x → x ≤ 8 → i ≤ gs.length → gs.length - i = d → d < k → reedpiperef10_May.l0 k x i a b c gs = some (fills x (gs.drop i))
  | d, 0, _, _, _, _, _, _, hk => by omega
  | 0, k + 1, i, x, h0, h1, hi, hd, hk => by
    have e : i = gs.length := by omega
    subst e
    simp only [reedpiperef10_May.l0]
    rw [if_neg (by omega), List.drop_length]
    rfl
  | d + 1, k + 1, i, x, h0, h1, hi, hd, hk => by
    simp only [reedpiperef10_May.l0]
    rw [if_pos (by omega), if_pos (by omega), drop_at gs i (by omega)]
    simp only [fills]
    by_cases h2 : rd gs i < 1
    · rw [if_pos h2, if_pos h2]
    · rw [if_neg h2, if_neg h2]
      by_cases h3 : rd gs i > x
      · rw [if_pos h3, if_pos h3]
      · rw [if_neg h3, if_neg h3]
        have e1 : wrap64 (x - rd gs i) = x - rd gs i := by unfold wrap64; omega
        rw [e1]
        clear e1
        have e2 : wrap64 ((i : Int) + 1) = ((i + 1 : Nat) : Int) := by clear h2 h3; unfold wrap64; omega
        rw [e2]
        clear e2
        exact may_loop a b c gs hl d k (i + 1) _ (by omega) (by omega) (by omega) (by omega) (by omega)
theorem one_row (gs : List Int) : (if (gs.length : Int) = 1 then (if 0 < (gs.length : Int) then some (rd gs 0 == 1) else none) else some false) = some (decide (gs = [1])) := by
  match gs with
  | [] => rfl
  | [g] =>
    simp only [List.length_singleton, Int.natCast_one, if_true]
    rw [if_pos (by decide)]
    show some (g == 1) = _
    congr 1
    rw [Bool.eq_iff_iff]
    simp
  | g :: h :: r =>
    rw [if_neg (by simp only [List.length_cons]; omega)]
    rw [decide_eq_false (by intro h; cases h)]
theorem may_ref {rate : Int} (h0 : 0 ≤ rate) (h1 : rate ≤ 11) (seq shape max : Int) (gs : List Int) (hl : gs.length ≤ 1000) (k : Nat) (hk : 1100 ≤ k) : reedpiperef10_May.f k rate seq shape max gs = some (decide (chk rate seq shape max gs = 0)) := by
  unfold reedpiperef10_May.f
  rw [many_ref h0 h1 (seq == 2) k (by omega)]
  simp only [Option.bind_some]
  obtain ⟨k, rfl⟩ : ∃ j, k = j + 1 := ⟨k - 1, by omega⟩
  unfold chk
  rw [if_neg (show ¬ (rate < 0 ∨ 11 < rate) by omega)]
  have no : ∀ {p : Prop} [Decidable p], p → some false = some (decide ((if p then (8 : Int) else 0) = 0)) := fun {p} _ h => by rw [if_pos h]; rfl
  by_cases c1 : seq > 3
  · rw [if_pos c1]; simp only [reedpiperef10_May.j0, if_true]; exact no (.inl c1)
  · rw [if_neg c1]
    by_cases c2 : shape > 1
    · rw [if_pos c2]; simp only [reedpiperef10_May.j0, if_true]; exact no (.inr (.inl c2))
    · rw [if_neg c2]
      by_cases c3 : max < 0
      · rw [if_pos c3]; simp only [reedpiperef10_May.j0, if_true]; exact no (.inr (.inr (.inl c3)))
      · rw [if_neg c3]
        by_cases c4 : max > bands rate (seq == 2)
        · rw [decide_eq_true c4]; simp only [reedpiperef10_May.j0, if_true]; exact no (.inr (.inr (.inr (.inl c4))))
        · rw [decide_eq_false c4]
          simp only [reedpiperef10_May.j0]
          rw [if_neg (by decide)]
          have key : some (grpB seq gs) = some (decide ((if (3 < seq ∨ 1 < shape ∨ max < 0 ∨ bands rate (seq == 2) < max ∨ grpB seq gs = false) then (8 : Int) else 0) = 0)) := by
            cases hg : grpB seq gs
            · rw [if_pos (.inr (.inr (.inr (.inr rfl))))]; rfl
            · rw [if_neg (by rintro (h | h | h | h | h) <;> first | omega | cases h)]; rfl
          rw [← key]
          unfold grpB
          by_cases hs : seq = 2
          · rw [if_pos hs, if_pos hs, ← fills_eight]
            have := may_loop seq shape max gs hl gs.length k 0 8 (by decide) (by decide) (by omega) (by omega) (by omega)
            rw [List.drop_zero] at this
            exact this
          · rw [if_neg hs, if_neg hs]
            exact one_row gs
theorem check_ref (rate seq shape max : Int) (gs : List Int) (hl : gs.length ≤ 1000) (k : Nat) (hk : 1200 ≤ k) : reedpiperef10_Check.f k rate seq shape max gs = some (chk rate seq shape max gs) := by
  obtain ⟨k, rfl⟩ : ∃ j, k = j + 1 := ⟨k - 1, by omega⟩
  unfold reedpiperef10_Check.f
  by_cases h0 : rate < 0
  · rw [if_pos h0]; simp only [reedpiperef10_Check.j0, if_true]; unfold chk; rw [if_pos (.inl h0)]
  · rw [if_neg h0]
    by_cases h1 : rate > 11
    · rw [decide_eq_true h1]; simp only [reedpiperef10_Check.j0, if_true]; unfold chk; rw [if_pos (.inr h1)]
    · rw [decide_eq_false h1]
      simp only [reedpiperef10_Check.j0]
      rw [if_neg (by decide), may_ref (by omega) (by omega) seq shape max gs hl k (by omega)]
      simp only [Option.bind_some]
      by_cases hc : chk rate seq shape max gs = 0
      · rw [decide_eq_true hc, if_pos rfl, hc]
      · rw [decide_eq_false hc, if_neg (by decide)]
        have : chk rate seq shape max gs = 8 := by
          unfold chk at hc ⊢
          rw [if_neg (by omega)] at hc ⊢
          split
          · rfl
          · rename_i hn; rw [if_neg hn] at hc; exact absurd rfl hc
        rw [this]

/-- Each window's group. -/
def rep : List Int → Nat → List Int
  | [], _ => []
  | g :: r, i => List.replicate g.toNat (i : Int) ++ rep r (i + 1)
theorem rep_at : ∀ (gs : List Int) (i : Nat) (v : Int), (∀ g ∈ gs, 1 ≤ g) → 0 ≤ v → v < sumI gs → rd (rep gs i) v = (grpOf gs v : Int) + i
  | [], _, v, _, h0, h1 => by simp only [sumI] at h1; omega
  | g :: r, i, v, hp, h0, h1 => by
    have hg := hp g (List.mem_cons_self ..)
    simp only [rep, grpOf]
    simp only [sumI] at h1
    by_cases h : g ≤ v
    · rw [if_pos h]
      have := rep_at r (i + 1) (v - g) (fun x hx => hp x (List.mem_cons_of_mem _ hx)) (by omega) (by omega)
      unfold rd at this ⊢
      rw [List.getD_eq_getElem?_getD, List.getElem?_append_right (by rw [List.length_replicate]; omega), List.length_replicate, show v.toNat - g.toNat = (v - g).toNat by omega, ← List.getD_eq_getElem?_getD, this]
      omega
    · rw [if_neg h]
      unfold rd
      rw [List.getD_eq_getElem?_getD, List.getElem?_append_left (by rw [List.length_replicate]; omega), List.getElem?_replicate, if_pos (by omega)]
      simp
theorem rep_len : ∀ (gs : List Int) (i : Nat), (∀ g ∈ gs, 1 ≤ g) → ((rep gs i).length : Int) = sumI gs
  | [], _, _ => rfl
  | g :: r, i, hp => by
    have hg := hp g (List.mem_cons_self ..)
    simp only [rep, sumI, List.length_append, List.length_replicate]
    have := rep_len r (i + 1) (fun x hx => hp x (List.mem_cons_of_mem _ hx))
    omega
theorem replicate_succ' (n : Nat) (a : Int) : List.replicate (n + 1) a = List.replicate n a ++ [a] := by rw [List.replicate_succ']
theorem in_l1 (a b c : Int) (gs : List Int) (F : Nat) (i : Nat) (hi : i < gs.length) (hl : gs.length ≤ 8) (h8 : rd gs i ≤ 8) (acc : List Int) (ha : acc.length ≤ 1000) (R : Option (List Int))
    (next : ∀ k, F ≤ k → reedpiperef10_In.l0 k (acc ++ List.replicate (rd gs i).toNat (i : Int)) ((i + 1 : Nat) : Int) a b c gs = R) :
    ∀ (d k j : Nat), j ≤ (rd gs i).toNat → (rd gs i).toNat - j = d → d + F < k → reedpiperef10_In.l1 k (acc ++ List.replicate j (i : Int)) i j a b c gs = R
  | d, 0, _, _, _, hk => by omega
  | 0, k + 1, j, hj, hd, hk => by
    have e : j = (rd gs i).toNat := by omega
    simp only [reedpiperef10_In.l1]
    rw [if_pos (by omega), if_pos (by omega), if_neg (by omega)]
    have e2 : wrap64 ((i : Int) + 1) = ((i + 1 : Nat) : Int) := by clear e h8 hj hd; unfold wrap64; omega
    rw [e2, e]
    exact next k (by omega)
  | d + 1, k + 1, j, hj, hd, hk => by
    have hc : j < (rd gs i).toNat := by omega
    have c1 : (j : Int) < rd gs i := by omega
    simp only [reedpiperef10_In.l1]
    rw [if_pos (by omega), if_pos (by omega), if_pos c1, if_pos (by rw [List.length_append, List.length_replicate]; omega)]
    have e2 : wrap64 ((j : Int) + 1) = ((j + 1 : Nat) : Int) := by clear hd hk; unfold wrap64; omega
    rw [e2, List.append_assoc, ← replicate_succ' j]
    clear e2
    exact in_l1 a b c gs F i hi hl h8 acc ha R next d k (j + 1) (by omega) (by omega) (by omega)
theorem in_l0 (a b c : Int) (gs : List Int) (hl : gs.length ≤ 8) (hp : ∀ g ∈ gs, 1 ≤ g ∧ g ≤ 8) : ∀ (d k i : Nat) (acc : List Int), acc.length ≤ 8 * i → i ≤ gs.length → gs.length - i = d → d * 20 < k → reedpiperef10_In.l0 k acc i a b c gs = some (acc ++ rep (gs.drop i) i)
  | d, 0, _, _, _, _, _, hk => by omega
  | 0, k + 1, i, acc, ha, hi, hd, hk => by
    have e : i = gs.length := by omega
    simp only [reedpiperef10_In.l0]
    rw [if_neg (by omega), e, List.drop_length]
    simp only [rep, List.append_nil]
  | d + 1, k + 1, i, acc, ha, hi, hd, hk => by
    simp only [reedpiperef10_In.l0]
    rw [if_pos (by omega)]
    have hg := hp (rd gs i) (by rw [rd_at gs i (by omega)]; exact List.getElem_mem _)
    rw [drop_at gs i (by omega)]
    simp only [rep]
    have := in_l1 a b c gs (d * 20 + 1) i (by omega) hl hg.2 acc (by omega) (some (acc ++ (List.replicate (rd gs i).toNat (i : Int) ++ rep (gs.drop (i + 1)) (i + 1)))) (fun k hk => by
      rw [in_l0 a b c gs hl hp d k (i + 1) _ (by rw [List.length_append, List.length_replicate]; omega) (by omega) (by omega) (by omega), List.append_assoc]) (rd gs i).toNat k 0 (by omega) (by omega) (by omega)
    rw [List.replicate_zero, List.append_nil] at this
    exact this
theorem some_ref {rate seq shape max : Int} {gs : List Int} (h : MayBe rate seq shape max gs) : ∀ (d k : Nat) (r : Int), 0 ≤ r → r ≤ rate → (rate - r).toNat = d → d + 1200 < k → reedpiperef10_Some.l0 k r seq shape max gs = some true := by
  intro d
  have hr1 := h.r1
  have hl := may_len h
  induction d with
  | zero =>
    intro k r h0 h1 hd hk
    obtain ⟨k, rfl⟩ : ∃ j, k = j + 1 := ⟨k - 1, by omega⟩
    have e : r = rate := by omega
    subst e
    simp only [reedpiperef10_Some.l0]
    rw [if_pos (by omega), may_ref (by omega) (by omega) seq shape max gs (by omega) k (by omega)]
    simp only [Option.bind_some]
    rw [decide_eq_true (may_chk h), if_pos rfl]
  | succ d ih =>
    intro k r h0 h1 hd hk
    obtain ⟨k, rfl⟩ : ∃ j, k = j + 1 := ⟨k - 1, by omega⟩
    simp only [reedpiperef10_Some.l0]
    rw [if_pos (by omega), may_ref (by omega) (by omega) seq shape max gs (by omega) k (by omega)]
    simp only [Option.bind_some]
    by_cases hc : chk r seq shape max gs = 0
    · rw [decide_eq_true hc, if_pos rfl]
    · rw [decide_eq_false hc, if_neg (by decide)]
      have e : wrap64 (r + 1) = r + 1 := by unfold wrap64; omega
      rw [e]
      exact ih k (r + 1) (by omega) (by omega) (by omega) (by omega)
theorem group_ref {rate seq shape max : Int} {gs : List Int} (h : MayBe rate seq shape max gs) (k : Nat) (hk : 1300 ≤ k) (v : Int) (h0 : 0 ≤ v) (h1 : v < wins seq) : reedpiperef10_Group.f k seq shape max gs v = some ((grpOf gs v : Int), 0) := by
  have hl := may_len h
  have hr := h.r0
  have hr1 := h.r1
  obtain ⟨hp, hs⟩ := may_sum h
  have hp1 : ∀ g ∈ gs, 1 ≤ g := fun g hg => (hp g hg).1
  unfold reedpiperef10_Group.f reedpiperef10_Some.f reedpiperef10_Many.f reedpiperef10_In.f
  rw [some_ref h rate.toNat k 0 (by omega) hr (by omega) (by omega)]
  simp only [Option.bind_some, if_true]
  have hw : (if seq = 2 then some (8 : Int) else some 1) = some ((wins seq : Nat) : Int) := by unfold wins; split <;> rfl
  rw [if_neg (by omega), hw]
  simp only [Option.bind_some]
  have hin := in_l0 seq shape max gs hl hp gs.length k 0 [] (by decide) (by omega) (by omega) (by omega)
  have hin : reedpiperef10_In.l0 k [] 0 seq shape max gs = some ([] ++ rep (gs.drop 0) 0) := hin
  rw [List.drop_zero, List.nil_append] at hin
  have hn := rep_len gs 0 hp1
  rw [if_neg (by omega), hin]
  simp only [Option.bind_some]
  rw [if_pos h0, if_pos (by omega), rep_at gs 0 v hp1 h0 (by omega)]
  simp

/-- The band of a line. -/
theorem place_loop {rate : Int} (h0 : 0 ≤ rate) (h1 : rate ≤ 11) (short : Bool) (w : Int) (line : Int) {b : Nat} (hb : b + 1 < (offs rate short).length) (b0 : rd (offs rate short) b ≤ line) (b1 : line < rd (offs rate short) ((b : Int) + 1)) (seq shape max : Int) (gs : List Int) (g : Int) (F : Nat)
    (hg : ∀ k, F ≤ k → reedpiperef10_Group.f k seq shape max gs w = some (g, 0)) : ∀ (d k i : Nat), i ≤ b → b - i = d → d + F < k → reedpiperef14_Place.l0 k w line (offs rate short) i seq shape max gs = some (g, (b : Int))
  | d, 0, _, _, _, hk => by omega
  | 0, k + 1, i, hi, hd, hk => by
    have e : i = b := by omega
    subst e
    have hl := (offs_len h0 h1 short).2.1
    have e2 : wrap64 ((i : Int) + 1) = (i : Int) + 1 := by clear b0 b1; unfold wrap64; omega
    simp only [reedpiperef14_Place.l0]
    rw [e2]
    clear e2
    rw [if_pos (by omega), if_pos (by omega), if_neg (by omega), hg k (by omega)]
    rfl
  | d + 1, k + 1, i, hi, hd, hk => by
    have hl := (offs_len h0 h1 short).2.1
    have e2 : wrap64 ((i : Int) + 1) = ((i + 1 : Nat) : Int) := by clear b0 b1; unfold wrap64; omega
    simp only [reedpiperef14_Place.l0]
    rw [e2]
    clear e2
    have := offs_le h0 h1 short (b - (i + 1)) (i + 1) (by omega)
    rw [show i + 1 + (b - (i + 1)) = b by omega] at this
    rw [if_pos (by omega), if_pos (by omega), if_pos (by omega)]
    exact place_loop h0 h1 short w line hb b0 b1 seq shape max gs g F hg d k (i + 1) (by omega) (by omega) (by omega)
/-- A line has a band. -/
theorem line_band {rate : Int} (h0 : 0 ≤ rate) (h1 : rate ≤ 11) (short : Bool) {n : Int} (n0 : 0 ≤ n) (n1 : n < (if short = true then 32 else 256)) : ∃ b : Nat, b + 1 < (offs rate short).length ∧ rd (offs rate short) b ≤ n ∧ n < rd (offs rate short) ((b : Int) + 1) := by
  have first_last : ∀ r, r < 12 → ∀ short : Bool, rd (offs (r : Nat) short) 0 = 0 ∧ rd (offs (r : Nat) short) (((offs (r : Nat) short).length : Int) - 1) = (if short = true then 32 else 256) := by decide +kernel
  have hf := first_last rate.toNat (by omega) short
  rw [Int.toNat_of_nonneg h0] at hf
  have hl := offs_len h0 h1 short
  have go : ∀ (d c : Nat), c + 1 + d = (offs rate short).length → rd (offs rate short) c ≤ n → ∃ b : Nat, b + 1 < (offs rate short).length ∧ rd (offs rate short) b ≤ n ∧ n < rd (offs rate short) ((b : Int) + 1) := by
    intro d
    induction d with
    | zero =>
      intro c hc hn
      have e : ((offs rate short).length : Int) - 1 = (c : Int) := by omega
      rw [e] at hf
      have := hf.2
      omega
    | succ d ih =>
      intro c hc hn
      by_cases hx : n < rd (offs rate short) ((c : Int) + 1)
      · exact ⟨c, by omega, hn, hx⟩
      · exact ih (c + 1) (by omega) (by rw [show ((c + 1 : Nat) : Int) = (c : Int) + 1 by omega]; omega)
  exact go ((offs rate short).length - 1) 0 (by omega) (by have := hf.1; rw [show ((0 : Nat) : Int) = 0 from rfl]; omega)
/-- A line's place in the document's answer: its window, group and band. -/
theorem place_ref {rate seq shape max : Int} {gs : List Int} (h : MayBe rate seq shape max gs) (k : Nat) (hk : 1400 ≤ k) (n : Int) (n0 : 0 ≤ n) (n1 : n < 256) :
    ∃ (w line : Int) (b : Nat), reedpiperef14_Place.f k rate seq shape max gs n = some ((grpOf gs w : Int), (b : Int)) ∧ 0 ≤ w ∧ w < wins seq ∧ n = w * 32 + line ∧ b + 1 < (offs rate (seq == 2)).length ∧ rd (offs rate (seq == 2)) b ≤ line ∧ line < rd (offs rate (seq == 2)) ((b : Int) + 1) := by
  obtain ⟨k, rfl⟩ : ∃ j, k = j + 1 := ⟨k - 1, by omega⟩
  have hl := offs_len h.r0 h.r1 (seq == 2)
  unfold reedpiperef14_Place.f
  by_cases hs : seq = 2
  · have es : (seq == 2) = true := by rw [hs]; rfl
    have ew : wins seq = 8 := by unfold wins; rw [if_pos hs]
    have e1 : Int.tdiv n 32 = n / 32 := Int.tdiv_eq_ediv_of_nonneg n0
    have e2 : Int.tmod n 32 = n % 32 := Int.tmod_eq_emod_of_nonneg n0
    have e3 : wrap64 (n / 32) = n / 32 := by unfold wrap64; omega
    rw [if_pos hs, e1, e2, e3]
    clear e1 e2 e3
    simp only [reedpiperef14_Place.j0]
    rw [es] at hl ⊢
    obtain ⟨b, hb, b0, b1⟩ := line_band h.r0 h.r1 true (n := n % 32) (by omega) (by rw [if_pos rfl]; omega)
    rw [offs_ref h.r0 h.r1 true k (by omega)]
    simp only [Option.bind_some]
    refine ⟨n / 32, n % 32, b, ?_, by omega, by omega, by omega, hb, b0, b1⟩
    exact place_loop h.r0 h.r1 true (n / 32) (n % 32) hb b0 b1 seq shape max gs _ 1300 (fun k hk => group_ref h k hk (n / 32) (by omega) (by omega)) b k 0 (by omega) (by omega) (by omega)
  · have es : (seq == 2) = false := by rw [beq_eq_false_iff_ne]; exact hs
    have ew : wins seq = 1 := by unfold wins; rw [if_neg hs]
    rw [if_neg hs]
    simp only [reedpiperef14_Place.j0]
    rw [es] at hl ⊢
    obtain ⟨b, hb, b0, b1⟩ := line_band h.r0 h.r1 false (n := n) n0 (by rw [if_neg (by decide)]; omega)
    rw [offs_ref h.r0 h.r1 false k (by omega)]
    simp only [Option.bind_some]
    refine ⟨0, n, b, ?_, by omega, by omega, by omega, hb, b0, b1⟩
    exact place_loop h.r0 h.r1 false 0 n hb b0 b1 seq shape max gs _ 1300 (fun k hk => group_ref h k hk 0 (by omega) (by omega)) b k 0 (by omega) (by omega) (by omega)
end Go.Proofs.Ytcfkkdjnalbnoaa
