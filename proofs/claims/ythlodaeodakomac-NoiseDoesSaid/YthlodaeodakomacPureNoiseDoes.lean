/-
  Seeds and noise are as the document says, and new memory: any numbers, without a condition.
-/
import Derived.Test.YthlodaeodakomacPrintN22
import Derived.Test.YthlodaeodakomacPn
import Derived.Test.YthlodaeodakomacRtAll
namespace Go.Proofs.Ythlodaeodakomac.Pure
open Go.RowKit Go.Proofs.Ythlodaeodakomac.PrintN Go.Proofs.YthlodaeodakomacW.PrintWords Go.Proofs.YthlodaeodakomacW.PrintLast

theorem seed_same (g v b : Int) : ∃ r, noise_Seed.f g v b = some r ∧ reedpiperef16_Seed.f g v b = some r := by
  unfold noise_Seed.f reedpiperef16_Seed.f reedpiperef16_Begin.f
  by_cases h1 : g < 0
  · exact ⟨_, by rw [if_pos h1], by rw [if_pos h1]⟩
  by_cases h2 : g > 255
  · exact ⟨_, by rw [if_neg h1, if_pos h2], by rw [if_neg h1, if_pos h2]⟩
  by_cases h3 : v < 0
  · exact ⟨_, by rw [if_neg h1, if_neg h2, if_pos h3], by rw [if_neg h1, if_neg h2, if_pos h3]⟩
  by_cases h4 : v ≥ 8
  · exact ⟨_, by rw [if_neg h1, if_neg h2, if_neg h3, if_pos h4], by rw [if_neg h1, if_neg h2, if_neg h3, if_pos (by omega)]⟩
  by_cases h5 : b < 0
  · exact ⟨_, by rw [if_neg h1, if_neg h2, if_neg h3, if_neg h4, if_pos h5], by rw [if_neg h1, if_neg h2, if_neg h3, if_neg (by omega), if_pos h5]⟩
  by_cases h6 : b > 511
  · exact ⟨_, by rw [if_neg h1, if_neg h2, if_neg h3, if_neg h4, if_neg h5, if_pos h6], by rw [if_neg h1, if_neg h2, if_neg h3, if_neg (by omega), if_neg h5, if_pos h6]⟩
  refine ⟨_, by rw [if_neg h1, if_neg h2, if_neg h3, if_neg h4, if_neg h5, if_neg h6], ?_⟩
  rw [if_neg h1, if_neg h2, if_neg h3, if_neg (by omega), if_neg h5, if_neg h6]
  simp only [Option.bind_some]
  have w1 : wrap64 (g * 4096) = g * 4096 := by unfold wrap64; omega
  have w2 : wrap64 (v * 512) = v * 512 := by unfold wrap64; omega
  have w3 : wrap64 (g * 4096 + v * 512) = g * 4096 + v * 512 := by unfold wrap64; omega
  have w4 : wrap64 (g * 4096 + v * 512 + b) = g * 4096 + v * 512 + b := by unfold wrap64; omega
  have w5 : wrap64 (4096 * g) = g * 4096 := by unfold wrap64; omega
  have w6 : wrap64 (512 * v) = v * 512 := by unfold wrap64; omega
  have w7 : wrap64 ((g * 4096 + v * 512 + b) * 2654435761) = (g * 4096 + v * 512 + b) * 2654435761 := by unfold wrap64; omega
  have t1 : Int.tmod ((g * 4096 + v * 512 + b) * 2654435761) 4294967296 = (g * 4096 + v * 512 + b) * 2654435761 % 4294967296 := Int.tmod_eq_emod_of_nonneg (by omega)
  rw [w5, w6, w1, w2, w3, w4, w7, t1]
  have e : (g * 4096 + v * 512 + b) % 4294967296 = g * 4096 + v * 512 + b := by omega
  rw [e, Int.emod_emod]

theorem draws_ref (s : Int) (m : Nat) (h0 : 0 ≤ s) (h1 : s < 4294967296) (hm : m ≤ 256) : ∀ (d k i : Nat), i ≤ m → m - i = d → d < k → reedpiperef16_draws.l0 k (sd i s) m (draws i s) i = some (draws m s) := by
  intro d
  induction d with
  | zero =>
    intro k i hi hd hk
    obtain ⟨k, rfl⟩ : ∃ n, k = n + 1 := ⟨k - 1, by omega⟩
    simp only [reedpiperef16_draws.l0]
    rw [if_neg (by omega), show i = m from by omega]
  | succ d ih =>
    intro k i hi hd hk
    obtain ⟨k, rfl⟩ : ∃ n, k = n + 1 := ⟨k - 1, by omega⟩
    have hn := ih k (i + 1) (by omega) (by omega) (by omega)
    obtain ⟨b0, b1⟩ := sd_bd i s h0 h1
    have hl := draws_length i s
    rw [draws_succ] at hn
    have e1 : sd (i + 1) s = nxt (sd i s) := rfl
    rw [e1] at hn
    simp only [reedpiperef16_draws.l0]
    have e : wrap64 ((i : Int) + 1) = ((i + 1 : Nat) : Int) := by unfold wrap64; omega
    generalize sd i s = x at *
    have w1 : wrap64 (x * 1664525) = x * 1664525 := by unfold wrap64; omega
    have w2 : wrap64 (x * 1664525 + 1013904223) = x * 1664525 + 1013904223 := by unfold wrap64; omega
    have t1 : Int.tmod (x * 1664525 + 1013904223) 4294967296 = nxt x := Int.tmod_eq_emod_of_nonneg (by omega)
    obtain ⟨n0, n1⟩ := nxt_bd x
    have t2 : Int.tdiv (nxt x) 65536 = nxt x / 65536 := Int.tdiv_eq_ediv_of_nonneg n0
    have w3 : wrap64 (nxt x / 65536) = nxt x / 65536 := by unfold wrap64; omega
    have w4 : wrap64 (nxt x / 65536 - 32768) = drw (nxt x) := by unfold wrap64 drw; omega
    rw [w1, w2, t1, t2, w3, w4, e, if_pos (by omega), if_pos (by omega)]
    exact hn

theorem down_is (a b : Int) (h0 : -1152921504606846976 ≤ a) (h1 : a ≤ 1152921504606846976) (hb : 0 < b) (hb1 : b ≤ 1152921504606846976) : reedpiperef16_down.f a b = some (a / b) := by
  unfold reedpiperef16_down.f
  rw [if_neg (by omega)]
  by_cases h : 0 ≤ a
  · have t1 : Int.tdiv a b = a / b := Int.tdiv_eq_ediv_of_nonneg h
    have q0 := Int.ediv_nonneg h (show 0 ≤ b by omega)
    have q1 := Int.ediv_le_self (a := a) b h
    have q2 := Int.ediv_mul_le a (show b ≠ 0 by omega)
    have q3 := Int.mul_nonneg q0 (show 0 ≤ b by omega)
    have w1 : wrap64 (a / b) = a / b := by unfold wrap64; omega
    have w2 : wrap64 (a / b * b) = a / b * b := by unfold wrap64; omega
    rw [t1, w1, w2, if_neg (by omega)]
  · have t1 : Int.tdiv a b = -(-a / b) := by
      have := Int.neg_tdiv (-a) b
      rw [Int.neg_neg] at this
      rw [this, Int.tdiv_eq_ediv_of_nonneg (by omega)]
    have q0 := Int.ediv_nonneg (show 0 ≤ -a by omega) (show 0 ≤ b by omega)
    have q1 := Int.ediv_le_self (a := -a) b (by omega)
    have q2 := Int.ediv_mul_le (-a) (show b ≠ 0 by omega)
    have q3 := Int.lt_ediv_add_one_mul_self (-a) hb
    rw [Int.add_mul] at q3
    have q4 := Int.mul_nonneg q0 (show 0 ≤ b by omega)
    generalize -a / b = e at *
    have w1 : wrap64 (-e) = -e := by unfold wrap64; omega
    have w2 : wrap64 (-e * b) = -e * b := by rw [Int.neg_mul]; unfold wrap64; omega
    have w3 : wrap64 (-e - 1) = -e - 1 := by unfold wrap64; omega
    rw [t1, w1, w2, w3, Int.neg_mul]
    by_cases hc : -(e * b) > a
    · rw [if_pos hc]
      congr 1
      symm
      exact Int.ediv_eq_iff_of_pos hb |>.mpr ⟨by rw [Int.sub_mul, Int.neg_mul]; omega, by rw [Int.sub_mul, Int.neg_mul]; omega⟩
    · rw [if_neg hc]
      congr 1
      symm
      exact Int.ediv_eq_iff_of_pos hb |>.mpr ⟨by rw [Int.neg_mul]; omega, by rw [Int.neg_mul]; omega⟩

theorem rd_getD (l : List Int) (i : Nat) : rd l i = l.getD i 0 := by unfold rd; rw [Int.toNat_natCast]

theorem wrap_id {x : Int} (h : -9223372036854775808 ≤ x ∧ x ≤ 9223372036854775807) : wrap64 x = x := by unfold wrap64; omega

theorem lines1_ref (a d : Int) (l : List Int) (m : Nat) (hl : l.length = m) (hm : m ≤ 256) (ha0 : 0 ≤ a) (ha1 : a ≤ 268435455) (hd0 : 0 ≤ d) (hd1 : d ≤ 4294967296) (hmem : ∀ v ∈ l, -32768 ≤ v ∧ v ≤ 32767) :
    ∀ (n k i : Nat), i ≤ m → m - i = n → n < k → reedpiperef16_Lines.l1 k m l d a ((l.take i).map (nl a d)) i = some (l.map (nl a d)) := by
  intro n
  induction n with
  | zero =>
    intro k i hi hd hk
    obtain ⟨k, rfl⟩ : ∃ n, k = n + 1 := ⟨k - 1, by omega⟩
    simp only [reedpiperef16_Lines.l1]
    rw [if_neg (by omega), show i = l.length from by omega, List.take_length]
  | succ n ih =>
    intro k i hi hd hk
    obtain ⟨k, rfl⟩ : ∃ n, k = n + 1 := ⟨k - 1, by omega⟩
    have hn := ih k (i + 1) (by omega) (by omega) (by omega)
    have hlt : i < l.length := by omega
    have hv := hmem (rd l i) (rd_mem l i hlt)
    have hsn : l.take (i + 1) = l.take i ++ [rd l i] := by
      rw [List.take_succ_eq_append_getElem hlt, rd_getD, List.getD_eq_getElem?_getD, List.getElem?_eq_getElem hlt]
      rfl
    rw [hsn, List.map_append] at hn
    simp only [List.map_cons, List.map_nil] at hn
    have hlen : ((l.take i).map (nl a d)).length < 17592186044416 := by
      have := List.length_take_le i l
      rw [List.length_map]; omega
    have b1 : (i : Int) < (m : Int) := by omega
    have b2 : (0 : Int) ≤ (i : Int) := by omega
    have b3 : (i : Int) < (l.length : Int) := by omega
    have e : wrap64 ((i : Int) + 1) = ((i + 1 : Nat) : Int) := wrap_id (x := ((i + 1 : Nat) : Int)) (by omega)
    clear ih hmem
    simp only [reedpiperef16_Lines.l1]
    rw [if_pos b1, e]
    clear e
    generalize rd l (i : Int) = v at *
    by_cases hdp : d > 0
    · have p0 : -8796093022208 ≤ v * a ∧ v * a ≤ 8796093022208 := by
        rcases Int.le_total 0 v with h | h
        · have q0 := Int.mul_nonneg h ha0
          have q1 := Int.mul_le_mul (a := v) (b := a) (c := 32768) (d := 268435455) (by omega) ha1 ha0 (by omega)
          omega
        · have q0 := Int.mul_nonneg (a := -v) (b := a) (by omega) ha0
          have q1 := Int.mul_le_mul (a := -v) (b := a) (c := 32768) (d := 268435455) (by omega) ha1 ha0 (by omega)
          rw [Int.neg_mul] at q0 q1
          omega
      have k1 : -9223372036854775808 ≤ 512 * v ∧ 512 * v ≤ 9223372036854775807 := by omega
      have k2 : -9223372036854775808 ≤ 2 * (v * a * 256) ∧ 2 * (v * a * 256) ≤ 9223372036854775807 := by omega
      have k3 : -9223372036854775808 ≤ 2 * (v * a * 256) + d ∧ 2 * (v * a * 256) + d ≤ 9223372036854775807 := by omega
      have k4 : -9223372036854775808 ≤ 2 * d ∧ 2 * d ≤ 9223372036854775807 := by omega
      have hdn := down_is (2 * (v * a * 256) + d) (2 * d) (by omega) (by omega) (by omega) (by omega)
      have e5 : 512 * v * a = 2 * (v * a * 256) := by rw [Int.mul_assoc 512 v a]; omega
      have en : nl a d v = (2 * (v * a * 256) + d) / (2 * d) := by unfold nl; rw [if_pos hdp]
      rw [if_pos hdp, if_pos b2, if_pos b3, wrap_id k1, e5, wrap_id k2, wrap_id k3, wrap_id k4, hdn]
      simp only [Option.bind_some]
      rw [if_pos hlen, ← en]
      exact hn
    · have en : nl a d v = 0 := by unfold nl; rw [if_neg hdp]
      rw [if_neg hdp, if_pos hlen, ← en]
      exact hn

theorem lines0_ref (_s step : Int) (l : List Int) (m : Nat) (hl : l.length = m) (hm : m ≤ 256) (h0 : 0 ≤ step) (hmem : ∀ v ∈ l, -32768 ≤ v ∧ v ≤ 32767) :
    ∀ (n k i : Nat), i ≤ m → m - i = n → n + 400 < k → reedpiperef16_Lines.l0 k step m l (ssq (l.take i)) i = some (l.map (nl (ln 1 (mn step 255)) (isq (ssq l * 65536)))) := by
  have hq0 := ssq_nonneg l
  have hq1 := ssq_bd l hmem
  obtain ⟨d0, d1, d2⟩ := isq_spec (ssq l * 65536) (by omega) (by omega)
  have hd2 : isq (ssq l * 65536) ≤ 4294967296 := by
    rcases Int.lt_or_le 4294967296 (isq (ssq l * 65536)) with h | h
    · have := sq_le (a := 4294967296) (b := isq (ssq l * 65536)) (by omega) (by omega); omega
    · exact h
  obtain ⟨a0, a1⟩ := one_bd step
  intro n
  induction n with
  | zero =>
    intro k i hi hd hk
    obtain ⟨k, rfl⟩ : ∃ n, k = n + 1 := ⟨k - 1, by omega⟩
    have hmn : 0 ≤ mn step 255 ∧ mn step 255 ≤ 255 := by unfold mn; split <;> omega
    simp only [reedpiperef16_Lines.l0]
    have hr := root_loop (ssq l * 65536) (by omega) (by omega) 32 k 0 (by omega) (by omega) (by decide) (by omega)
    have w1 : wrap64 (65536 * ssq l) = ssq l * 65536 := by unfold wrap64; omega
    rw [if_neg (by omega), show i = l.length from by omega, List.take_length, w1]
    unfold reedpiperef03_Root.f
    rw [show (2147483648 : Int) = bitv 32 from by decide, hr]
    simp only [Option.bind_some]
    rw [value_ref k 1 (mn step 255) (by omega) (by omega) (by omega) hmn.1 hmn.2]
    simp only [Option.bind_some]
    exact lines1_ref (ln 1 (mn step 255)) (isq (ssq l * 65536)) l m hl hm a0 a1 d0 hd2 hmem m k 0 (Nat.zero_le _) rfl (by omega)
  | succ n ih =>
    intro k i hi hd hk
    obtain ⟨k, rfl⟩ : ∃ n, k = n + 1 := ⟨k - 1, by omega⟩
    have hn := ih k (i + 1) (by omega) (by omega) (by omega)
    have hlt : i < l.length := by omega
    have hv := hmem (rd l i) (rd_mem l i hlt)
    have hv2 := sq_bd hv.1 hv.2
    have hs0 := ssq_nonneg (l.take i)
    have hs1 := ssq_bd (l.take i) (fun v hv => hmem v (List.mem_of_mem_take hv))
    have hti := List.length_take_le i l
    rw [ssq_take l i hlt, ← rd_getD] at hn
    have b1 : (i : Int) < (m : Int) := by omega
    have b2 : (0 : Int) ≤ (i : Int) := by omega
    have b3 : (i : Int) < (l.length : Int) := by omega
    have k1 : -9223372036854775808 ≤ rd l i * rd l i ∧ rd l i * rd l i ≤ 9223372036854775807 := by omega
    have k2 : -9223372036854775808 ≤ ssq (l.take i) + rd l i * rd l i ∧ ssq (l.take i) + rd l i * rd l i ≤ 9223372036854775807 := by omega
    have e : wrap64 ((i : Int) + 1) = ((i + 1 : Nat) : Int) := wrap_id (x := ((i + 1 : Nat) : Int)) (by omega)
    simp only [reedpiperef16_Lines.l0]
    rw [if_pos b1, if_pos b2, if_pos b3, wrap_id k1, wrap_id k2, e]
    exact hn

theorem band_same (s step many : Int) (hs : inSeed s) : ∃ r, noise_Band.f s step many = some r ∧ reedpiperef16_Band.f 1000 s step many = some r ∧ r.1.length ≤ 256 := by
  unfold reedpiperef16_Band.f
  by_cases h1 : step < 0 ∨ 511 < step
  · refine ⟨_, band_arg hs h1, ?_, by simp⟩
    rcases h1 with h | h
    · rw [if_pos h]; simp only [reedpiperef16_Band.j0, ↓reduceIte]
    · rw [if_neg (by omega), decide_eq_true (by omega)]; simp only [reedpiperef16_Band.j0, ↓reduceIte]
  · rw [if_neg (by omega), decide_eq_false (by omega)]
    simp only [reedpiperef16_Band.j0, Bool.false_eq_true, ↓reduceIte]
    by_cases hm : many < 0 ∨ 256 < many
    · refine ⟨_, band_many hs h1 hm, ?_, by simp⟩
      rcases hm with h | h
      · rw [if_pos h]
      · rw [if_neg (by omega), if_pos (by omega)]
    · refine ⟨_, band_ok hs h1 hm, ?_, by rw [bandl_length]; omega⟩
      rw [if_neg (by omega), if_neg (by omega)]
      obtain ⟨m, rfl⟩ := Int.eq_ofNat_of_zero_le (show 0 ≤ many by omega)
      have hm2 : m ≤ 256 := by omega
      have w : wrap64 s = s := by have := hs.1; have := hs.2; unfold wrap64; omega
      unfold reedpiperef16_Lines.f reedpiperef16_draws.f
      have hd := draws_ref s m hs.1 hs.2 hm2 m 999 0 (Nat.zero_le _) rfl (by omega)
      rw [w]
      rw [show sd 0 s = s from rfl, show draws 0 s = [] from rfl] at hd
      rw [show ((0 : Nat) : Int) = 0 from rfl] at hd
      rw [hd]
      simp only [Option.bind_some]
      have hl := lines0_ref s step (draws m s) m (draws_length m s) hm2 (by omega) (draws_mem m s) m 999 0 (Nat.zero_le _) rfl (by omega)
      rw [show ssq ((draws m s).take 0) = 0 from rfl, show ((0 : Nat) : Int) = 0 from rfl] at hl
      rw [hl]
      rfl

theorem does_loop (s step many : Int) (r : List Int × Int) (hb : noise_Band.f s step many = some r) (hr : r.1.length ≤ 256) : ∀ (d k : Nat) (x : List Int) (i : Nat), x.length ≤ 256 → i ≤ x.length → x.length - i = d → d + 300 < k → reedpipelaw16_NoiseDoes.l0 k s step many x r.1 r.2 i = some true := by
  intro d
  induction d with
  | zero =>
    intro k x i hx hi hd hk
    obtain ⟨k, rfl⟩ : ∃ n, k = n + 1 := ⟨k - 1, by omega⟩
    simp only [reedpipelaw16_NoiseDoes.l0]
    rw [if_neg (by omega), hb]
    simp only [Option.bind_some]
    rw [same_list k r.1 (by omega) (by omega)]
    simp
  | succ d ih =>
    intro k x i hx hi hd hk
    obtain ⟨k, rfl⟩ : ∃ n, k = n + 1 := ⟨k - 1, by omega⟩
    simp only [reedpipelaw16_NoiseDoes.l0]
    have e : wrap64 ((i : Int) + 1) = ((i + 1 : Nat) : Int) := by unfold wrap64; omega
    rw [if_pos (by omega), if_pos (by omega), e]
    exact ih k _ (i + 1) (by rw [List.length_set]; exact hx) (by rw [List.length_set]; omega) (by rw [List.length_set]; omega) (by omega)

theorem NoiseDoes : reedpipelaw16_NoiseDoes.Pure := by
  intro g v b s step many _ _ _ hs _ _
  have hs := seed_wf hs
  refine ⟨1000, ?_⟩
  obtain ⟨r1, a1, b1⟩ := seed_same g v b
  obtain ⟨r2, a2, b2, h2⟩ := band_same s step many hs
  unfold reedpipelaw16_NoiseDoes.f
  rw [a1, b1, a2, b2]
  simp only [Option.bind_some, ↓reduceIte]
  rw [same_list 1000 r2.1 (by omega) (by omega)]
  simp only [Option.bind_some, ↓reduceIte]
  rw [show (r2.2 != r2.2) = false from bne_self_eq_false _]
  have hl := does_loop s step many r2 a2 h2 r2.1.length 999 r2.1 0 h2 (Nat.zero_le _) rfl (by omega)
  rw [reedpipelaw16_NoiseDoes.j0, if_neg (by decide)]
  exact hl

end Go.Proofs.Ythlodaeodakomac.Pure
