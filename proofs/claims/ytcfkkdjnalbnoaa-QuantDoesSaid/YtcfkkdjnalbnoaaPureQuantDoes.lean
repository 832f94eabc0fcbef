/-
  reedpipelaw14.QuantDoes' printed function answers true.
-/
import Derived.Test.YtcfkkdjnalbnoaaPrintD3
import Derived.Test.YtcfkkdjnalbnoaaQhD
import Derived.Test.YtcfkkdjnalbnoaaQsD
namespace Go.Proofs.Ytcfkkdjnalbnoaa
open Go.RowKit Go.Proofs.YtcfkkdjnalbnoaaW.PrintWords Go.Proofs.YtcfkkdjnalbnoaaW.PrintLast Go.Proofs.YtcfkkdjnalbnoaaW.PrintMore PrintD

theorem row_loop (x : List Int) (hx : x.length ≤ 17592186043904) : ∀ (d k i : Nat), i ≤ x.length → x.length - i = d → d < k → reedpiperef11_Same.l0 k x x i = some true
  | d, 0, _, _, _, hk => by omega
  | 0, k + 1, i, hi, hd, _ => by
    simp only [reedpiperef11_Same.l0]
    rw [if_neg (by omega)]
  | d + 1, k + 1, i, hi, hd, hk => by
    simp only [reedpiperef11_Same.l0]
    have e : wrap64 ((i : Int) + 1) = ((i + 1 : Nat) : Int) := by unfold wrap64; omega
    rw [if_pos (by omega), if_pos (by omega), if_pos (by omega), if_pos trivial, e]
    exact row_loop x hx d k (i + 1) (by omega) (by omega) (by omega)
theorem row_same (k : Nat) (x : List Int) (hx : x.length ≤ 17592186043904) (hk : x.length < k) : reedpiperef11_Same.f k x x = some true := by
  unfold reedpiperef11_Same.f
  rw [if_pos rfl]
  exact row_loop x hx x.length k 0 (by omega) (by omega) hk
theorem rdl_small {xs : List (List Int)} (h : ∀ r ∈ xs, r.length ≤ 17592186043904) (i : Nat) (hi : i < xs.length) : (rdl xs i).length ≤ 17592186043904 := by
  rw [rdl_at xs i hi]; exact h _ (List.getElem_mem _)
theorem rows_loop (xs : List (List Int)) (h : ∀ r ∈ xs, r.length ≤ 17592186043904) (hn : xs.length ≤ 100) : ∀ (d k i : Nat), i ≤ xs.length → xs.length - i = d → d + 17592186044000 < k → reedpipelaw14_same.l0 k xs xs i = some true
  | d, 0, _, _, _, hk => by omega
  | 0, k + 1, i, hi, hd, _ => by
    simp only [reedpipelaw14_same.l0]
    rw [if_neg (by omega)]
  | d + 1, k + 1, i, hi, hd, hk => by
    simp only [reedpipelaw14_same.l0]
    have e : wrap64 ((i : Int) + 1) = ((i + 1 : Nat) : Int) := by unfold wrap64; omega
    have hs := rdl_small h i (by omega)
    rw [if_pos (by omega), if_pos (by omega), if_pos (by omega), rdl_is, row_same k _ hs (by omega)]
    simp only [Option.bind_some, if_true]
    rw [e]
    exact rows_loop xs h hn d k (i + 1) (by omega) (by omega) (by omega)
theorem rows_same (k : Nat) (xs : List (List Int)) (h : ∀ r ∈ xs, r.length ≤ 17592186043904) (hn : xs.length ≤ 100) (hk : 17592186044200 ≤ k) : reedpipelaw14_same.f k xs xs = some true := by
  unfold reedpipelaw14_same.f
  rw [if_pos rfl]
  exact rows_loop xs h hn xs.length k 0 (by omega) (by omega) (by omega)
theorem twins_loop (xs : List (List Int)) (h : ∀ r ∈ xs, r.length ≤ 17592186043904) (hn : xs.length ≤ 100) : ∀ (d k i : Nat), i ≤ xs.length → xs.length - i = d → d < k → reedpipelaw14_twins.l0 k xs (xs.take i) i = some xs
  | d, 0, _, _, _, hk => by omega
  | 0, k + 1, i, hi, hd, _ => by
    have e : i = xs.length := by omega
    simp only [reedpipelaw14_twins.l0]
    rw [if_neg (by omega), e, List.take_length]
  | d + 1, k + 1, i, hi, hd, hk => by
    have hi' : i < xs.length := by omega
    have hs := rdl_small h i hi'
    have e : wrap64 ((i : Int) + 1) = ((i + 1 : Nat) : Int) := by clear hs; unfold wrap64; omega
    simp only [reedpipelaw14_twins.l0]
    rw [if_pos (by clear e; omega), if_pos (by clear e; omega), rdl_is, if_pos (by clear e; rw [List.length_nil]; omega), if_pos (by clear e; rw [List.length_take]; omega), e, List.nil_append, rdl_at xs i hi', ← List.take_succ_eq_append_getElem hi']
    exact twins_loop xs h hn d k (i + 1) (by omega) (by omega) (by omega)
theorem twins_is (k : Nat) (xs : List (List Int)) (h : ∀ r ∈ xs, r.length ≤ 17592186043904) (hn : xs.length ≤ 100) (hk : 200 ≤ k) : reedpipelaw14_twins.f k xs = some xs := by
  unfold reedpipelaw14_twins.f
  have := twins_loop xs h hn xs.length k 0 (by omega) (by omega) (by omega)
  rw [List.take_zero] at this
  exact this

section
variable {seq shape max : Int} {gs : List Int} {books steps : List (List Int)} {l : List Int}
theorem does_l1 (hb : ∀ r ∈ books, r.length ≤ 17592186043904) (hst : ∀ r ∈ steps, r.length ≤ 17592186043904) (g0 : gs.length ≤ 100) (g1 : books.length ≤ 100) (g2 : steps.length ≤ 100) (g3 : l.length ≤ 1000) :
    ∀ (d k i : Nat) (c : List Int), c.length ≤ 256 → i ≤ c.length → c.length - i = d → d + 17592186050000 < k → reedpipelaw14_QuantDoes.l1 k books steps l books steps l gs c i seq shape max gs = some true
  | d, 0, _, _, _, _, _, hk => by omega
  | 0, k + 1, i, c, hc, hi, hd, hk => by
    simp only [reedpipelaw14_QuantDoes.l1]
    rw [if_neg (by omega), rows_same k books hb g1 (by omega)]
    simp only [Option.bind_some, if_true]
    rw [rows_same k steps hst g2 (by omega)]
    simp only [Option.bind_some, if_true]
    rw [row_same k l (by omega) (by omega)]
    simp only [Option.bind_some, if_true]
    rw [row_same k gs (by omega) (by omega)]
    rfl
  | d + 1, k + 1, i, c, hc, hi, hd, hk => by
    have e : wrap64 ((i : Int) + 1) = ((i + 1 : Nat) : Int) := by unfold wrap64; omega
    simp only [reedpipelaw14_QuantDoes.l1]
    rw [if_pos (by clear e; omega), if_pos (by clear e; omega), e]
    clear e
    exact does_l1 hb hst g0 g1 g2 g3 d k (i + 1) _ (by rw [List.length_set]; exact hc) (by rw [List.length_set]; omega) (by rw [List.length_set]; omega) (by omega)
theorem does_l0 (hb : ∀ r ∈ books, r.length ≤ 17592186043904) (hst : ∀ r ∈ steps, r.length ≤ 17592186043904) (g0 : gs.length ≤ 100) (g1 : books.length ≤ 100) (g2 : steps.length ≤ 100) (g3 : l.length ≤ 1000) (c : List Int) (hc : c.length ≤ 256) :
    ∀ (d k i : Nat) (a : List Int), a.length ≤ 256 → i ≤ a.length → a.length - i = d → d + 17592186051000 < k → reedpipelaw14_QuantDoes.l0 k books steps l books steps l gs a c i seq shape max gs = some true
  | d, 0, _, _, _, _, _, hk => by omega
  | 0, k + 1, i, a, ha, hi, hd, hk => by
    simp only [reedpipelaw14_QuantDoes.l0]
    rw [if_neg (by omega)]
    exact does_l1 hb hst g0 g1 g2 g3 c.length k 0 c hc (by omega) (by omega) (by omega)
  | d + 1, k + 1, i, a, ha, hi, hd, hk => by
    have e : wrap64 ((i : Int) + 1) = ((i + 1 : Nat) : Int) := by unfold wrap64; omega
    simp only [reedpipelaw14_QuantDoes.l0]
    rw [if_pos (by clear e; omega), if_pos (by clear e; omega), e]
    clear e
    exact does_l0 hb hst g0 g1 g2 g3 c hc d k (i + 1) _ (by rw [List.length_set]; exact ha) (by rw [List.length_set]; omega) (by rw [List.length_set]; omega) (by omega)
end

theorem pureDoes (k : Nat) (hk : 17592186100000 ≤ k) (rate seq shape max : Int) (gs : List Int) (books steps : List (List Int)) (l : List Int) (hs0 : 0 ≤ seq) (hs1 : seq ≤ 255) (hb : ∀ r ∈ books, r.length ≤ 17592186043904) (hst : ∀ r ∈ steps, r.length ≤ 17592186043904) :
    reedpipelaw14_QuantDoes.f k rate seq shape max gs books steps l = some true := by
  unfold reedpipelaw14_QuantDoes.f
  rcases great_is k (by omega) seq shape max gs books steps l with hg | ⟨hg, g0, g1, g2, g3⟩
  · rw [hg]
    simp only [Option.bind_some, if_true]
  · rw [hg]
    simp only [Option.bind_some]
    rw [if_neg (by decide), twins_is k books hb g1 (by omega)]
    simp only [Option.bind_some]
    rw [twins_is k steps hst g2 (by omega)]
    simp only [Option.bind_some, List.nil_append]
    rw [if_pos (by rw [List.length_nil]; omega), if_pos (by rw [List.length_nil]; omega)]
    have hz := sized_of g0 g1 g2 g3
    obtain ⟨a, e, hL, hR, ha⟩ : ∃ a e, quant_Lines.f rate seq shape max gs books steps l = some (a, e) ∧ reedpiperef14_Lines.f k rate seq shape max gs books steps l = some (a, e) ∧ a.length ≤ 256 := by
      by_cases hr : rdy rate seq shape max gs books steps l 8191 = 0
      · exact ⟨_, _, lines_fine (fine_of hr) ⟨hs0, hs1⟩ hz, by rw [lines_ref (by omega) k (by omega), if_pos hr], by rw [eachL_len]; exact Nat.le_refl _⟩
      · exact ⟨_, _, lines_not hr ⟨hs0, hs1⟩ hz, by rw [lines_ref (by omega) k (by omega), if_neg hr], by rw [List.length_nil]; omega⟩
    obtain ⟨c, f, hQ, hS, hc⟩ : ∃ c f, quant_Quantise.f rate seq shape max gs books steps l = some (c, f) ∧ reedpiperef14_Quantise.f k rate seq shape max gs books steps l = some (c, f) ∧ c.length ≤ 256 := by
      by_cases hr : rdy rate seq shape max gs books steps l 268435455 = 0
      · exact ⟨_, _, quant_fine (fine_of hr) ⟨hs0, hs1⟩ hz, by rw [quantise_ref (by omega) k (by omega), if_pos hr], by rw [eachL_len]; exact Nat.le_refl _⟩
      · exact ⟨_, _, quant_not hr ⟨hs0, hs1⟩ hz, by rw [quantise_ref (by omega) k (by omega), if_neg hr], by rw [List.length_nil]; omega⟩
    rw [hL]
    simp only [Option.bind_some]
    rw [hR]
    simp only [Option.bind_some]
    rw [hQ]
    simp only [Option.bind_some]
    rw [hS]
    simp only [Option.bind_some]
    rw [row_same k a (by omega) (by omega)]
    simp only [Option.bind_some, if_true]
    rw [row_same k c (by omega) (by omega)]
    simp only [Option.bind_some, if_true]
    rw [show (f != f) = false by rw [bne_eq_false_iff_eq]]
    obtain ⟨k, rfl⟩ : ∃ j, k = j + 1 := ⟨k - 1, by omega⟩
    simp only [reedpipelaw14_QuantDoes.j0]
    rw [if_neg (by decide)]
    exact does_l0 hb hst g0 g1 g2 g3 c hc a.length k 0 a ha (by omega) (by omega) (by omega)
end Go.Proofs.Ytcfkkdjnalbnoaa
