/-
  Lines that are made, quantised, turned over or coarser are fine, too.
-/
import Derived.Test.YtcfkkdjnalbnoaaQa
namespace Go.Proofs.Ytcfkkdjnalbnoaa
open Go.RowKit Go.Proofs.YtcfkkdjnalbnoaaW.PrintWords Go.Proofs.YtcfkkdjnalbnoaaW.PrintLast Go.Proofs.YtcfkkdjnalbnoaaW.PrintMore

section
variable {rate seq shape max : Int} {gs : List Int} {books steps : List (List Int)} {l : List Int} {m : Int}

theorem Fine.lines (h : Fine rate seq shape max gs books steps l m) {l' : List Int} {m' : Int} (h1 : l'.length = 256) (h2 : ∀ k : Nat, k < 256 → -m' ≤ rd l' k ∧ rd l' k ≤ m') : Fine rate seq shape max gs books steps l' m' :=
  ⟨h.may, h.nb, h.ns, h.rb, h.rs, h.bk, h1, h2⟩
/-- The step of a place that is sent. -/
theorem Fine.step (h : Fine rate seq shape max gs books steps l m) {x : Int × Int × Int} (hx : x ∈ plc rate seq max gs) (hs : sentB (rd (rdl books x.2.1) x.2.2) = true) : 0 ≤ rd (rdl steps x.2.1) x.2.2 ∧ rd (rdl steps x.2.1) x.2.2 ≤ 255 := by
  obtain ⟨h0, h1, h2, h3, h4, h5⟩ := plc_bd h.may hx
  have hb := h.bk x.2.1.toNat x.2.2.toNat (by omega) (by omega)
  rw [Int.toNat_of_nonneg h2, Int.toNat_of_nonneg h4] at hb
  exact sent_ok hb hs
theorem Fine.line (h : Fine rate seq shape max gs books steps l m) {n : Int} (h0 : 0 ≤ n) (h1 : n < 256) : -m ≤ rd l n ∧ rd l n ≤ m := by
  have := h.ll n.toNat (by omega)
  rwa [Int.toNat_of_nonneg h0] at this
/-- Quantised lines are fine. -/
theorem Fine.q (h : Fine rate seq shape max gs books steps l m) : Fine rate seq shape max gs books steps (eachL rate seq max gs books steps l qn) 8191 :=
  h.lines (eachL_len ..) fun k _ => eachL_bd h.may books steps l qn 8191 (by omega) (fun _ _ _ => qn_bd _ _) k (by omega)
/-- The values of quantised lines are fine. -/
theorem Fine.v (h : Fine rate seq shape max gs books steps l 8191) : Fine rate seq shape max gs books steps (eachL rate seq max gs books steps l ln) 268435455 :=
  h.lines (eachL_len ..) fun k _ => eachL_bd h.may books steps l ln 268435455 (by omega) (fun x hx _ => by
    have hb := plc_bd h.may hx
    have := h.line hb.1 hb.2.1
    exact ln_bd this.1 this.2) k (by omega)

theorem lines_fine (h : Fine rate seq shape max gs books steps l 8191) (hs : 0 ≤ seq ∧ seq ≤ 255) (hz : sized gs books steps l) : quant_Lines.f rate seq shape max gs books steps l = some (eachL rate seq max gs books steps l ln, 0) := by
  unfold quant_Lines.f; rw [if_pos ⟨hs, hz⟩, if_pos (of_fine h)]
theorem lines_not (hr : rdy rate seq shape max gs books steps l 8191 ≠ 0) (hs : 0 ≤ seq ∧ seq ≤ 255) (hz : sized gs books steps l) : quant_Lines.f rate seq shape max gs books steps l = some ([], rdy rate seq shape max gs books steps l 8191) := by
  unfold quant_Lines.f; rw [if_pos ⟨hs, hz⟩, if_neg hr]
theorem quant_fine (h : Fine rate seq shape max gs books steps l 268435455) (hs : 0 ≤ seq ∧ seq ≤ 255) (hz : sized gs books steps l) : quant_Quantise.f rate seq shape max gs books steps l = some (eachL rate seq max gs books steps l qn, 0) := by
  unfold quant_Quantise.f; rw [if_pos ⟨hs, hz⟩, if_pos (of_fine h)]
theorem quant_not (hr : rdy rate seq shape max gs books steps l 268435455 ≠ 0) (hs : 0 ≤ seq ∧ seq ≤ 255) (hz : sized gs books steps l) : quant_Quantise.f rate seq shape max gs books steps l = some ([], rdy rate seq shape max gs books steps l 268435455) := by
  unfold quant_Quantise.f; rw [if_pos ⟨hs, hz⟩, if_neg hr]
theorem sized_lines {l' : List Int} (h : sized gs books steps l) (h1 : l'.length = 256) : sized gs books steps l' := ⟨h.1, h.2.1, h.2.2.1, by omega⟩

/-- Made, quantised, made again: the same. -/
theorem made_again (h : Fine rate seq shape max gs books steps l 8191) (n : Int) (h0 : 0 ≤ n) :
    rd (eachL rate seq max gs books steps (eachL rate seq max gs books steps (eachL rate seq max gs books steps l ln) qn) ln) n = rd (eachL rate seq max gs books steps l ln) n := by
  rcases place_or rate seq max gs n with ⟨x, hx, rfl⟩ | hn
  · have hb := plc_bd h.may hx
    have hl := h.line hb.1 hb.2.1
    rw [eachL_in h.may books steps _ ln hx, eachL_in h.may books steps l ln hx]
    unfold val
    by_cases hs : sentB (rd (rdl books x.2.1) x.2.2) = true
    · rw [if_pos hs, if_pos hs, eachL_in h.may books steps _ qn hx]
      unfold val
      rw [if_pos hs, eachL_in h.may books steps _ ln hx]
      unfold val
      rw [if_pos hs]
      exact again _ _ hl.1 hl.2
    · rw [if_neg hs, if_neg hs]
  · rw [eachL_out h.may books steps _ ln h0 hn, eachL_out h.may books steps _ ln h0 hn]
/-- No other quantised line is nearer. -/
theorem made_near (h : Fine rate seq shape max gs books steps l 268435455) {o : List Int} (ho : ∀ n : Int, 0 ≤ n → n < 256 → -8191 ≤ rd o n ∧ rd o n ≤ 8191) (n : Int) (h0 : 0 ≤ n) :
    dist (rd l n) (rd (eachL rate seq max gs books steps (eachL rate seq max gs books steps l qn) ln) n) ≤ dist (rd l n) (rd (eachL rate seq max gs books steps o ln) n) := by
  rcases place_or rate seq max gs n with ⟨x, hx, rfl⟩ | hn
  · have hb := plc_bd h.may hx
    have hl := ho x.1 hb.1 hb.2.1
    rw [eachL_in h.may books steps _ ln hx, eachL_in h.may books steps o ln hx]
    unfold val
    by_cases hs : sentB (rd (rdl books x.2.1) x.2.2) = true
    · rw [if_pos hs, if_pos hs, eachL_in h.may books steps _ qn hx]
      unfold val
      rw [if_pos hs]
      exact nearest _ _ _ hl.1 hl.2
    · rw [if_neg hs, if_neg hs]; exact Int.le_refl _
  · rw [eachL_out h.may books steps _ ln h0 hn, eachL_out h.may books steps _ ln h0 hn]; exact Int.le_refl _
end
end Go.Proofs.Ytcfkkdjnalbnoaa
