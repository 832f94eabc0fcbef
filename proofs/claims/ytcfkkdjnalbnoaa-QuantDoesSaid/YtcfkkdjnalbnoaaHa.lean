/-
  Contracts: quant.sent, the closures of quant.ready, slices.IndexFunc and slices.ContainsFunc at them.
-/
import Derived.Test.YtcfkkdjnalbnoaaI0
import Derived.WalkSpells
import Derived.WalkLawsBesides
import Derived.Lib.Hide
namespace Go.Proofs.Ytcfkkdjnalbnoaa
open Go.RowKit Go.Proofs.YtcfkkdjnalbnoaaW.PrintWords Go.Proofs.YtcfkkdjnalbnoaaW.PrintLast Go.Proofs.YtcfkkdjnalbnoaaW.PrintMore

def rdl (xs : List (List Int)) (i : Int) : List Int := xs.getD i.toNat ([] : List Int)
/-- A row of rows. -/
theorem at_row {w : World} {A : Option Addr} {n : Nat} {xs : List (List Int)} (h : Kd.C (Kd.slice 3 (Kd.int .i64)) w A n xs) (i : Int) (h0 : 0 ≤ i) (h1 : i < n) :
    ∃ ad A0 c0, A = some ad ∧ w.cell? (ad.add i.toNat) = some (.slice A0 (rdl xs i).length c0) ∧ (rdl xs i).length ≤ c0 ∧ (Kd.int .i64).C w A0 (rdl xs i).length (rdl xs i) := by
  obtain ⟨ad, c, e, _, hK, hc0⟩ := Kd.C_get h ([] : List Int) i h0 h1
  have hc : ∀ j u, c[j]? = some u → w.cell? (ad.add (i.toNat * 1 + j)) = some u := hc0
  obtain ⟨A0, c0, rfl, l0, g0⟩ := hK
  exact ⟨ad, A0, c0, e, by have hq := hc 0 _ rfl; rwa [Nat.mul_one, Nat.add_zero] at hq, l0, g0⟩
/-- A number of a row. -/
theorem at_int {w : World} {A : Option Addr} {n : Nat} {xs : List Int} (h : Kd.C (Kd.int .i64) w A n xs) (i : Int) (h0 : 0 ≤ i) (h1 : i < n) :
    ∃ ad, A = some ad ∧ w.cell? (ad.add i.toNat) = some (.int .i64 (rd xs i)) := by
  obtain ⟨ad, c, e, _, hK, hc0⟩ := Kd.C_get h (0 : Int) i h0 h1
  have hc : ∀ j u, c[j]? = some u → w.cell? (ad.add (i.toNat * 1 + j)) = some u := hc0
  have hK' : c = [.int .i64 (xs.getD i.toNat 0)] := hK
  subst hK'
  exact ⟨ad, e, by have hq := hc 0 _ rfl; rwa [Nat.mul_one, Nat.add_zero] at hq⟩

/-- A book whose lines are sent. -/
def sentB (b : Int) : Bool := decide (1 ≤ b ∧ b ≤ 11)
set_option maxHeartbeats 400000 in
theorem sent_x (b : Int) (w : World) : Calls Try.prog 42 #[.int .i64 b] w fun e w' => e = .returned (.bool (sentB b)) ∧ w = w' := by
  by_cases h : 1 ≤ b
  · by_cases h2 : b ≤ 11
    · have e : sentB b = true := decide_eq_true ⟨h, h2⟩
      rw [e]
      clear e
      go_enter Try.func42, Try.ntmps42
      go_wp2
      go_ret
      exact ⟨by simp <;> omega, rfl⟩
    · have e : sentB b = false := decide_eq_false (by omega)
      rw [e]
      clear e
      go_enter Try.func42, Try.ntmps42
      go_wp2
      go_ret
      exact ⟨by simp <;> omega, rfl⟩
  · have e : sentB b = false := decide_eq_false (by omega)
    rw [e]
    clear e
    go_enter Try.func42, Try.ntmps42
    go_wp2
    go_ret
    exact ⟨rfl, rfl⟩

def shortB (mx : Int) (l : List Int) : Bool := (l.length : Int) != mx
set_option maxHeartbeats 400000 in
theorem short_x (A : Option Addr) (c : Nat) (l : List Int) (b : Nat) (mx : Int) (w : World) (hc : w.cell? ⟨b, 2, none⟩ = some (.int .i64 mx)) :
    Calls Try.prog 39 #[.slice A l.length c, .pointer (some ⟨b, 0, none⟩)] w fun e w' => e = .returned (.bool (shortB mx l)) ∧ w = w' := by
  go_enter Try.func39, Try.ntmps39
  go_wp2
  go_ret
  exact ⟨rfl, rfl⟩

def farB (most n : Int) : Bool := decide (n < -most ∨ most < n)
set_option maxHeartbeats 400000 in
theorem far_x (n : Int) (b : Nat) (most : Int) (h0 : 0 ≤ most) (h1 : most ≤ 268435455) (w : World) (hc : w.cell? ⟨b, 0, none⟩ = some (.int .i64 most)) :
    Calls Try.prog 40 #[.int .i64 n, .pointer (some ⟨b, 0, none⟩)] w fun e w' => e = .returned (.bool (farB most n)) ∧ w = w' := by
  by_cases h : n < -most
  · have e : farB most n = true := decide_eq_true (.inl h)
    rw [e]
    clear e
    go_enter Try.func40, Try.ntmps40
    go_wp2
    go_ret
    exact ⟨rfl, rfl⟩
  · have e : farB most n = decide (most < n) := decide_eq_decide.mpr (by omega)
    rw [e]
    clear e
    go_enter Try.func40, Try.ntmps40
    go_wp2
    go_ret
    exact ⟨rfl, rfl⟩

theorem getD_at {α : Type} (l : List α) (z : α) (k : Nat) (h : k < l.length) : l.getD k z = l[k] := by
  rw [List.getD_eq_getElem?_getD, List.getElem?_eq_getElem h]; rfl
theorem any_at {α : Type} (p : α → Bool) (l : List α) (f : List α → Int → α) (k : Nat) (h : k < l.length) (hp : p (f l k) = true) (hf : ∀ (j : Nat) (h : j < l.length), f l j = l[j]) : l.any p = true := by
  rw [List.any_eq_true]
  exact ⟨l[k], List.getElem_mem h, by rw [← hf k h]; exact hp⟩
theorem any_none {α : Type} (p : α → Bool) (l : List α) (f : List α → Int → α) (hp : ∀ j : Nat, j < l.length → p (f l j) = false) (hf : ∀ (j : Nat) (h : j < l.length), f l j = l[j]) : l.any p = false := by
  rw [Bool.eq_false_iff]
  intro h
  rw [List.any_eq_true] at h
  obtain ⟨x, hx, hpx⟩ := h
  obtain ⟨j, hj, rfl⟩ := List.getElem_of_mem hx
  have := hp j hj
  rw [hf j hj, hpx] at this
  cases this
theorem neg_of {r : Int} (h : 0 ≤ r ↔ false = true) : r < 0 := by
  rcases Int.lt_or_le r 0 with h1 | h1
  · exact h1
  · exact absurd (h.mp h1) (by simp)
theorem rdl_at (ls : List (List Int)) (k : Nat) (h : k < ls.length) : rdl ls k = ls[k] := by
  unfold rdl; rw [Int.toNat_natCast]; exact getD_at _ _ _ h

def Idxrow (b : Bool) (w : World) (e : Ending) (w' : World) : Prop := ∃ r : Int, -1 ≤ r ∧ (0 ≤ r ↔ b = true) ∧ e = .returned (.int .i64 r) ∧ w = w'
set_option maxRecDepth 100000 in
set_option maxHeartbeats 1000000 in
theorem idx_row (mx : Int) (A : Option Addr) (c : Nat) (ls : List (List Int)) (b : Nat) (w : World) (hr : Kd.C (Kd.slice 3 (Kd.int .i64)) w A ls.length ls) (hc : w.cell? ⟨b, 2, none⟩ = some (.int .i64 mx)) (hm : ls.length ≤ 140737488355328) :
    Calls Try.prog 58 #[.slice A ls.length c, .func (.func 39) #[] #[.pointer (some ⟨b, 0, none⟩)]] w (Idxrow (ls.any (shortB mx)) w) := by
  have HR := Aside0.mk hr
  have HM := Lib.hid hm
  clear hr
  go_enter Try.func58, Try.ntmps58
  go_wp2
  go_loop [8] (fun v8 => ∃ k : Nat, k ≤ ls.length ∧ v8 = .int .i64 k ∧ Hid (∀ j : Nat, j < k → (shortB mx) (rdl ls j) = false)) (fun v8 => ls.length - (intOf v8).toNat)
  case atStart => exact ⟨0, Nat.zero_le _, rfl, Lib.hid (fun j hj => absurd hj (Nat.not_lt_zero j))⟩
  case round =>
    obtain ⟨k, hk, rfl, HN⟩ := hrel
    by_cases hlt : k < ls.length
    · have i0 : (0 : Int) ≤ (k : Int) := by omega
      have i1 : (k : Int) < (ls.length : Int) := by omega
      obtain ⟨ad, A0, c0, hA, hcell, _, _⟩ := at_row HR.out (k : Int) i0 i1
      rw [Int.toNat_natCast] at hcell
      subst hA
      have hcl := short_x A0 c0 (rdl ls k) b mx w hc
      by_cases hp : (shortB mx) (rdl ls k) = true
      · have HP := Lib.hid hp
        rw [hp] at hcl
        clear hp
        go_wp2_with (go_at_call 39; refine (hcl).mono ?_; rintro e w' ⟨rfl, rfl⟩)
        go_ret
        exact ⟨(k : Int), by omega, ⟨fun _ => any_at _ ls rdl k hlt HP.out (rdl_at ls), fun _ => i0⟩, rfl, rfl⟩
      · have HP := Lib.hid (Bool.eq_false_iff.mpr hp)
        rw [Bool.eq_false_iff.mpr hp] at hcl
        clear hp
        go_wp2_with (go_at_call 39; refine (hcl).mono ?_; rintro e w' ⟨rfl, rfl⟩)
        go_round
        case rel => exact ⟨k + 1, hlt, by go_num, Lib.hid (fun j hj => by
          by_cases hjk : j = k
          · rw [hjk]; exact HP.out
          · exact HN.out j (by omega))⟩
        case measure => simp [intOf]; omega
    · obtain rfl : k = ls.length := by omega
      go_wp2
      go_ret
      exact ⟨-1, by omega, ⟨fun h => absurd h (by omega), fun h => by rw [any_none _ ls rdl HN.out (rdl_at ls)] at h; cases h⟩, rfl, rfl⟩
set_option maxHeartbeats 400000 in
theorem has_row (mx : Int) (A : Option Addr) (c : Nat) (ls : List (List Int)) (b : Nat) (w : World) (hr : Kd.C (Kd.slice 3 (Kd.int .i64)) w A ls.length ls) (hc : w.cell? ⟨b, 2, none⟩ = some (.int .i64 mx)) (hm : ls.length ≤ 140737488355328) :
    Calls Try.prog 41 #[.slice A ls.length c, .func (.func 39) #[] #[.pointer (some ⟨b, 0, none⟩)]] w fun e w' => e = .returned (.bool (ls.any (shortB mx))) ∧ w = w' := by
  have HX := Lib.hid (idx_row mx A c ls b w hr hc hm)
  obtain ⟨q, hq⟩ : ∃ q, q = ls.any (shortB mx) := ⟨_, rfl⟩
  rw [← hq] at HX ⊢
  clear hq hr
  go_enter Try.func41, Try.ntmps41
  cases q
  · go_wp2_with (go_at_call 58; refine HX.out.mono ?_; rintro e w' ⟨r, hr1, hr2, rfl, rfl⟩; have hr3 := neg_of hr2; clear hr2)
    go_ret
    exact ⟨by simp <;> omega, rfl⟩
  · go_wp2_with (go_at_call 58; refine HX.out.mono ?_; rintro e w' ⟨r, hr1, hr2, rfl, rfl⟩; have hr3 : 0 ≤ r := hr2.mpr rfl; clear hr2)
    go_ret
    exact ⟨by simp <;> omega, rfl⟩

def Idxnum (b : Bool) (w : World) (e : Ending) (w' : World) : Prop := ∃ r : Int, -1 ≤ r ∧ (0 ≤ r ↔ b = true) ∧ e = .returned (.int .i64 r) ∧ w = w'
set_option maxRecDepth 100000 in
set_option maxHeartbeats 1000000 in
theorem idx_num (most : Int) (A : Option Addr) (c : Nat) (ls : List Int) (b : Nat) (w : World) (hr : Kd.C (Kd.int .i64) w A ls.length ls) (h0 : 0 ≤ most) (h1 : most ≤ 268435455) (hc : w.cell? ⟨b, 0, none⟩ = some (.int .i64 most)) (hm : ls.length ≤ 140737488355328) :
    Calls Try.prog 59 #[.slice A ls.length c, .func (.func 40) #[] #[.pointer (some ⟨b, 0, none⟩)]] w (Idxnum (ls.any (farB most)) w) := by
  have HR := Aside0.mk hr
  have HM := Lib.hid hm
  clear hr
  go_enter Try.func59, Try.ntmps59
  go_wp2
  go_loop [8] (fun v8 => ∃ k : Nat, k ≤ ls.length ∧ v8 = .int .i64 k ∧ Hid (∀ j : Nat, j < k → (farB most) (rd ls j) = false)) (fun v8 => ls.length - (intOf v8).toNat)
  case atStart => exact ⟨0, Nat.zero_le _, rfl, Lib.hid (fun j hj => absurd hj (Nat.not_lt_zero j))⟩
  case round =>
    obtain ⟨k, hk, rfl, HN⟩ := hrel
    by_cases hlt : k < ls.length
    · have i0 : (0 : Int) ≤ (k : Int) := by omega
      have i1 : (k : Int) < (ls.length : Int) := by omega
      obtain ⟨ad, hA, hcell⟩ := at_int HR.out (k : Int) i0 i1
      rw [Int.toNat_natCast] at hcell
      subst hA
      have hcl := far_x (rd ls k) b most h0 h1 w hc
      by_cases hp : (farB most) (rd ls k) = true
      · have HP := Lib.hid hp
        rw [hp] at hcl
        clear hp
        go_wp2_with (go_at_call 40; refine (hcl).mono ?_; rintro e w' ⟨rfl, rfl⟩)
        go_ret
        exact ⟨(k : Int), by omega, ⟨fun _ => any_at _ ls rd k hlt HP.out (rd_at ls), fun _ => i0⟩, rfl, rfl⟩
      · have HP := Lib.hid (Bool.eq_false_iff.mpr hp)
        rw [Bool.eq_false_iff.mpr hp] at hcl
        clear hp
        go_wp2_with (go_at_call 40; refine (hcl).mono ?_; rintro e w' ⟨rfl, rfl⟩)
        go_round
        case rel => exact ⟨k + 1, hlt, by go_num, Lib.hid (fun j hj => by
          by_cases hjk : j = k
          · rw [hjk]; exact HP.out
          · exact HN.out j (by omega))⟩
        case measure => simp [intOf]; omega
    · obtain rfl : k = ls.length := by omega
      go_wp2
      go_ret
      exact ⟨-1, by omega, ⟨fun h => absurd h (by omega), fun h => by rw [any_none _ ls rd HN.out (rd_at ls)] at h; cases h⟩, rfl, rfl⟩
set_option maxHeartbeats 400000 in
theorem has_num (most : Int) (A : Option Addr) (c : Nat) (ls : List Int) (b : Nat) (w : World) (hr : Kd.C (Kd.int .i64) w A ls.length ls) (h0 : 0 ≤ most) (h1 : most ≤ 268435455) (hc : w.cell? ⟨b, 0, none⟩ = some (.int .i64 most)) (hm : ls.length ≤ 140737488355328) :
    Calls Try.prog 43 #[.slice A ls.length c, .func (.func 40) #[] #[.pointer (some ⟨b, 0, none⟩)]] w fun e w' => e = .returned (.bool (ls.any (farB most))) ∧ w = w' := by
  have HX := Lib.hid (idx_num most A c ls b w hr h0 h1 hc hm)
  obtain ⟨q, hq⟩ : ∃ q, q = ls.any (farB most) := ⟨_, rfl⟩
  rw [← hq] at HX ⊢
  clear hq hr
  go_enter Try.func43, Try.ntmps43
  cases q
  · go_wp2_with (go_at_call 59; refine HX.out.mono ?_; rintro e w' ⟨r, hr1, hr2, rfl, rfl⟩; have hr3 := neg_of hr2; clear hr2)
    go_ret
    exact ⟨by simp <;> omega, rfl⟩
  · go_wp2_with (go_at_call 59; refine HX.out.mono ?_; rintro e w' ⟨r, hr1, hr2, rfl, rfl⟩; have hr3 : 0 ≤ r := hr2.mpr rfl; clear hr2)
    go_ret
    exact ⟨by simp <;> omega, rfl⟩
end Go.Proofs.Ytcfkkdjnalbnoaa
