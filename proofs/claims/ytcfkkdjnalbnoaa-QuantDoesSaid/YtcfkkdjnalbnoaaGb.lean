/-
  The contract of band.Offsets.
-/
import Derived.Test.YtcfkkdjnalbnoaaProg
import Derived.Below
import Derived.Deep.Draws
import Derived.Deep.AppendLies
import Derived.Maps.AppendAt
import Derived.OwnWalk
import Derived.WalkKit
import Derived.WalkSpells
import Derived.WalkLawsBesides
import Derived.Scope
import Derived.WalkMore
import Derived.Test.YtcfkkdjnalbnoaaWWords
import Derived.Test.YtcfkkdjnalbnoaaWLast
import Derived.Test.YtcfkkdjnalbnoaaWMore
namespace Go.Proofs.Ytcfkkdjnalbnoaa
open Go.RowKit Go.Proofs.YtcfkkdjnalbnoaaW.PrintWords Go.Proofs.YtcfkkdjnalbnoaaW.PrintLast Go.Proofs.YtcfkkdjnalbnoaaW.PrintMore
attribute [local go_sem] max2_int min2_int max_two min_two

theorem info3 : (Try.prog.info? 3).map (fun i => (i.zero, i.size, i.bytes)) = some (some (.int .i64 0), 1, 8) := by kernel_rfl

/-- The next offset. -/
def onext (k lines by_ at_ : Int) : Int := mn lines (at_ + 4 + 4 * (at_ * k / by_))
/-- The offsets from one on. -/
def ofs (k lines by_ : Int) : Nat → Int → List Int
  | 0, a => [a]
  | n + 1, a => if a < lines then a :: ofs k lines by_ n (onext k lines by_ a) else [a]

def offs (rate : Int) (short : Bool) : List Int :=
  if short then ofs (3 + (11 - rate) / 2) 32 64 256 0 else ofs (3 + (11 - rate) / 2) 256 256 256 0

def band_Offsets.f (a0 : Int) (a1 : Bool) : Option (List Int × Int) :=
  if a0 < 0 then some ([], 2) else if 11 < a0 then some ([], 2) else some (offs a0 a1, 0)

set_option maxRecDepth 100000 in
set_option maxHeartbeats 1000000 in
theorem offsets_long (a0 : Int) (h0 : 0 ≤ a0) (h1 : a0 ≤ 11) (w : World) :
    Calls Try.prog 27 #[.int .i64 a0, .bool false] w fun e w' => ∃ v0_ : Value, e = .returned (.tuple #[v0_, .int .i64 0]) ∧ Kd.R (Kd.int .i64) 3 w' w.heap.size (fun _ => True) v0_ (offs a0 false) ∧ Below w.heap.size w w' := by
  have HE0 := Aside0.mk (show ofs (3 + (11 - a0) / 2) 256 256 256 0 = offs a0 false from rfl)
  have hk0 : 3 ≤ (3 + (11 - a0) / 2) := by omega
  have hk1 : (3 + (11 - a0) / 2) ≤ 8 := by omega
  have HB := Aside0.mk (Below.refl w.heap.size w)
  go_enter Try.func27, Try.ntmps27
  go_wp2
  refine wp_scope_jumps 0 (fun a' w' => ∃ (v9 : Value) (xs : List Int) (at_ : Int) (n : Nat) (u11 u12 u13 u14 u15 u16 u17 u18 u19 u20 u21 u22 u23 u24 u25 u26 u27 u28 u29 u30 u31 u32 u33 u34 u35 u36 u37 u38 u39 u40 : Value), a' = { tmps := #[.int .i64 a0, .bool false, undef, undef, .slice none 0 0, .int .i64 0, .int .i64 (3 + (11 - a0) / 2), .int .i64 256, .int .i64 256, v9, .int .i64 at_, u11, u12, u13, u14, u15, u16, u17, u18, u19, u20, u21, u22, u23, u24, u25, u26, u27, u28, u29, u30, u31, u32, u33, u34, u35, u36, u37, u38, u39, u40], defers := [] } ∧ 0 ≤ at_ ∧ at_ ≤ 256 ∧ (xs.length : Int) ≤ at_ ∧ Aside0 (xs ++ ofs (3 + (11 - a0) / 2) 256 256 n at_ = offs a0 false) ∧ Aside0 (256 - at_ ≤ n) ∧ Aside0 (Kd.R (Kd.int .i64) 3 w' w.heap.size (fun _ => True) v9 xs) ∧ Aside0 (Below w.heap.size w w'))
    (fun a' _ => (257 - intOf (a'.tmps.getD 10 undef)).toNat) rfl ?_ ?_
  · go_wp2
    go_step3
    go_wp2_with ((with_reducible refine gate_builtin (b := .append) (xs := #[.tmp 22, .tmp 24]) rfl ?_); at_builtin; go_must (refine Kd.R_append (Kd.int .i64) (w0 := w) w.heap.size rfl (.tmp 22) (.tmp 24) 22 3 (.int .i64 0) 8 rfl Try.underlying22 info3 rfl (by decide) (by omega) _ [] (0) [.int .i64 (0)] (fun _ => True) (fun _ => False) rfl rfl ?aP (fun _ hk => hk.elim) ?aF ?aO ?aB ?aS ?aL ?_); (case aP => exact rfl); (case aB => exact (by repeat (first | (with_reducible first | exact HB.out | apply below_alloc | apply pw_below_drewN | apply below_drew1) | exact HB.out))); (case aF => exact (fun _ _ => trivial)); (case aO => exact (by (with_reducible repeat (first | apply Kd.R_alloc | apply Kd.R_drewN | apply Kd.R_drew)); exact Kd.R_nil _ _ _ _ _)); (case aS => exact (below_size (by repeat (first | (with_reducible first | exact HB.out | apply below_alloc | apply pw_below_drewN | apply below_drew1) | exact HB.out)))); (case aL => (try simp only [List.length_nil]); omega); intro v117 w10 ho hb hg hat; have HB2 := Aside0.mk hb; have HO2 := Aside0.mk ho; clear HB ho hb hg hat)
    go_step3
    have hh := HE0.out
    rw [show (256 : Nat) = 255 + 1 from rfl, ofs, if_pos (by omega)] at hh
    have h4 : onext (3 + (11 - a0) / 2) 256 256 0 = 4 := by simp [onext, mn]
    refine ⟨rfl, _, [0], 4, 255, _, _, _, _, _, _, _, _, _, _, _, _, _, _, _, _, _, _, _, _, _, _, _, _, _, _, _, _, _, _, rfl, by omega, by omega, by simp, ⟨by rw [← hh, h4]; rfl⟩, ⟨by omega⟩, ⟨?_⟩, ⟨?_⟩⟩
    · exact HO2.out
    · exact HB2.out
  · rintro a' w' ⟨v9, xs, at_, n, u11, u12, u13, u14, u15, u16, u17, u18, u19, u20, u21, u22, u23, u24, u25, u26, u27, u28, u29, u30, u31, u32, u33, u34, u35, u36, u37, u38, u39, u40, rfl, hat0, hat1, hxl, HE, HN, HO, HB⟩
    have hm0 : 0 ≤ at_ * (3 + (11 - a0) / 2) := Int.mul_nonneg hat0 (by omega)
    have hm1 : at_ * (3 + (11 - a0) / 2) ≤ 256 * 8 := Int.mul_le_mul hat1 (by omega) (by omega) (by omega)
    by_cases hlt : at_ < 256
    · obtain ⟨m, rfl⟩ : ∃ m, n = m + 1 := ⟨n - 1, by have := HN.out; omega⟩
      have HE2 : Aside0 (∀ x, onext (3 + (11 - a0) / 2) 256 256 at_ = x → xs ++ [at_] ++ ofs (3 + (11 - a0) / 2) 256 256 m x = offs a0 false) := by
        refine ⟨fun x hx => ?_⟩
        rw [← HE.out, ofs, if_pos hlt, hx, List.append_assoc]
        rfl
      clear HE
      go_wp2_with ((with_reducible refine gate_builtin (b := .append) (xs := #[.tmp 22, .tmp 24]) rfl ?_); at_builtin; go_must (refine Kd.R_append (Kd.int .i64) (w0 := w) w.heap.size rfl (.tmp 22) (.tmp 24) 22 3 (.int .i64 0) 8 rfl Try.underlying22 info3 rfl (by decide) (by omega) _ xs (at_) [.int .i64 (at_)] (fun _ => True) (fun _ => False) rfl rfl ?aP (fun _ hk => hk.elim) ?aF ?aO ?aB ?aS ?aL ?_); (case aP => exact rfl); (case aB => exact (by repeat (first | (with_reducible first | exact HB.out | apply below_alloc | apply pw_below_drewN | apply below_drew1) | exact HB.out))); (case aF => exact (fun _ _ => trivial)); (case aO => exact (by (with_reducible repeat (first | apply Kd.R_alloc | apply Kd.R_drewN | apply Kd.R_drew)); exact HO.out)); (case aS => exact (below_size (by repeat (first | (with_reducible first | exact HB.out | apply below_alloc | apply pw_below_drewN | apply below_drew1) | exact HB.out)))); (case aL => (try simp only [List.length_nil]); omega); intro v117 w10 ho hb hg hat; have HB2 := Aside0.mk hb; have HO2 := Aside0.mk ho; clear HB ho hb hg hat)
      all_goals
        go_step3
        refine ⟨rfl, ⟨_, xs ++ [at_], _, m, _, _, _, _, _, _, _, _, _, _, _, _, _, _, _, _, _, _, _, _, _, _, _, _, _, _, _, _, _, _, rfl, by omega, by omega, by simp; omega, ⟨HE2.out _ (by unfold onext mn; split <;> omega)⟩, ⟨by have := HN.out; omega⟩, ⟨HO2.out⟩, ⟨HB2.out⟩⟩, ?_⟩
        simp [intOf]
        omega
    · have HE2 : Aside0 (xs ++ [at_] = offs a0 false) := by
        refine ⟨?_⟩
        rw [← HE.out]
        cases n with
        | zero => rfl
        | succ n => rw [ofs, if_neg hlt]
      clear HE
      go_wp2_with ((with_reducible refine gate_builtin (b := .append) (xs := #[.tmp 22, .tmp 24]) rfl ?_); at_builtin; go_must (refine Kd.R_append (Kd.int .i64) (w0 := w) w.heap.size rfl (.tmp 22) (.tmp 24) 22 3 (.int .i64 0) 8 rfl Try.underlying22 info3 rfl (by decide) (by omega) _ xs (at_) [.int .i64 (at_)] (fun _ => True) (fun _ => False) rfl rfl ?aP (fun _ hk => hk.elim) ?aF ?aO ?aB ?aS ?aL ?_); (case aP => exact rfl); (case aB => exact (by repeat (first | (with_reducible first | exact HB.out | apply below_alloc | apply pw_below_drewN | apply below_drew1) | exact HB.out))); (case aF => exact (fun _ _ => trivial)); (case aO => exact (by (with_reducible repeat (first | apply Kd.R_alloc | apply Kd.R_drewN | apply Kd.R_drew)); exact HO.out)); (case aS => exact (below_size (by repeat (first | (with_reducible first | exact HB.out | apply below_alloc | apply pw_below_drewN | apply below_drew1) | exact HB.out)))); (case aL => (try simp only [List.length_nil]); omega); intro v117 w10 ho hb hg hat; have HB2 := Aside0.mk hb; have HO2 := Aside0.mk ho; clear HB ho hb hg hat)
      simp only [Exit.jump]
      go_ret2
      exact ⟨_, rfl, by rw [← HE2.out]; exact HO2.out, HB2.out⟩

set_option maxRecDepth 100000 in
set_option maxHeartbeats 1000000 in
theorem offsets_short (a0 : Int) (h0 : 0 ≤ a0) (h1 : a0 ≤ 11) (w : World) :
    Calls Try.prog 27 #[.int .i64 a0, .bool true] w fun e w' => ∃ v0_ : Value, e = .returned (.tuple #[v0_, .int .i64 0]) ∧ Kd.R (Kd.int .i64) 3 w' w.heap.size (fun _ => True) v0_ (offs a0 true) ∧ Below w.heap.size w w' := by
  have HE0 := Aside0.mk (show ofs (3 + (11 - a0) / 2) 32 64 256 0 = offs a0 true from rfl)
  have hk0 : 3 ≤ (3 + (11 - a0) / 2) := by omega
  have hk1 : (3 + (11 - a0) / 2) ≤ 8 := by omega
  have HB := Aside0.mk (Below.refl w.heap.size w)
  go_enter Try.func27, Try.ntmps27
  go_wp2
  refine wp_scope_jumps 0 (fun a' w' => ∃ (v9 : Value) (xs : List Int) (at_ : Int) (n : Nat) (u11 u12 u13 u14 u15 u16 u17 u18 u19 u20 u21 u22 u23 u24 u25 u26 u27 u28 u29 u30 u31 u32 u33 u34 u35 u36 u37 u38 u39 u40 : Value), a' = { tmps := #[.int .i64 a0, .bool true, undef, undef, .slice none 0 0, .int .i64 0, .int .i64 (3 + (11 - a0) / 2), .int .i64 32, .int .i64 64, v9, .int .i64 at_, u11, u12, u13, u14, u15, u16, u17, u18, u19, u20, u21, u22, u23, u24, u25, u26, u27, u28, u29, u30, u31, u32, u33, u34, u35, u36, u37, u38, u39, u40], defers := [] } ∧ 0 ≤ at_ ∧ at_ ≤ 32 ∧ (xs.length : Int) ≤ at_ ∧ Aside0 (xs ++ ofs (3 + (11 - a0) / 2) 32 64 n at_ = offs a0 true) ∧ Aside0 (32 - at_ ≤ n) ∧ Aside0 (Kd.R (Kd.int .i64) 3 w' w.heap.size (fun _ => True) v9 xs) ∧ Aside0 (Below w.heap.size w w'))
    (fun a' _ => (257 - intOf (a'.tmps.getD 10 undef)).toNat) rfl ?_ ?_
  · go_wp2
    go_step3
    go_wp2_with ((with_reducible refine gate_builtin (b := .append) (xs := #[.tmp 22, .tmp 24]) rfl ?_); at_builtin; go_must (refine Kd.R_append (Kd.int .i64) (w0 := w) w.heap.size rfl (.tmp 22) (.tmp 24) 22 3 (.int .i64 0) 8 rfl Try.underlying22 info3 rfl (by decide) (by omega) _ [] (0) [.int .i64 (0)] (fun _ => True) (fun _ => False) rfl rfl ?aP (fun _ hk => hk.elim) ?aF ?aO ?aB ?aS ?aL ?_); (case aP => exact rfl); (case aB => exact (by repeat (first | (with_reducible first | exact HB.out | apply below_alloc | apply pw_below_drewN | apply below_drew1) | exact HB.out))); (case aF => exact (fun _ _ => trivial)); (case aO => exact (by (with_reducible repeat (first | apply Kd.R_alloc | apply Kd.R_drewN | apply Kd.R_drew)); exact Kd.R_nil _ _ _ _ _)); (case aS => exact (below_size (by repeat (first | (with_reducible first | exact HB.out | apply below_alloc | apply pw_below_drewN | apply below_drew1) | exact HB.out)))); (case aL => (try simp only [List.length_nil]); omega); intro v117 w10 ho hb hg hat; have HB2 := Aside0.mk hb; have HO2 := Aside0.mk ho; clear HB ho hb hg hat)
    go_step3
    have hh := HE0.out
    rw [show (256 : Nat) = 255 + 1 from rfl, ofs, if_pos (by omega)] at hh
    have h4 : onext (3 + (11 - a0) / 2) 32 64 0 = 4 := by simp [onext, mn]
    refine ⟨rfl, _, [0], 4, 255, _, _, _, _, _, _, _, _, _, _, _, _, _, _, _, _, _, _, _, _, _, _, _, _, _, _, _, _, _, _, rfl, by omega, by omega, by simp, ⟨by rw [← hh, h4]; rfl⟩, ⟨by omega⟩, ⟨?_⟩, ⟨?_⟩⟩
    · exact HO2.out
    · exact HB2.out
  · rintro a' w' ⟨v9, xs, at_, n, u11, u12, u13, u14, u15, u16, u17, u18, u19, u20, u21, u22, u23, u24, u25, u26, u27, u28, u29, u30, u31, u32, u33, u34, u35, u36, u37, u38, u39, u40, rfl, hat0, hat1, hxl, HE, HN, HO, HB⟩
    have hm0 : 0 ≤ at_ * (3 + (11 - a0) / 2) := Int.mul_nonneg hat0 (by omega)
    have hm1 : at_ * (3 + (11 - a0) / 2) ≤ 32 * 8 := Int.mul_le_mul hat1 (by omega) (by omega) (by omega)
    by_cases hlt : at_ < 32
    · obtain ⟨m, rfl⟩ : ∃ m, n = m + 1 := ⟨n - 1, by have := HN.out; omega⟩
      have HE2 : Aside0 (∀ x, onext (3 + (11 - a0) / 2) 32 64 at_ = x → xs ++ [at_] ++ ofs (3 + (11 - a0) / 2) 32 64 m x = offs a0 true) := by
        refine ⟨fun x hx => ?_⟩
        rw [← HE.out, ofs, if_pos hlt, hx, List.append_assoc]
        rfl
      clear HE
      go_wp2_with ((with_reducible refine gate_builtin (b := .append) (xs := #[.tmp 22, .tmp 24]) rfl ?_); at_builtin; go_must (refine Kd.R_append (Kd.int .i64) (w0 := w) w.heap.size rfl (.tmp 22) (.tmp 24) 22 3 (.int .i64 0) 8 rfl Try.underlying22 info3 rfl (by decide) (by omega) _ xs (at_) [.int .i64 (at_)] (fun _ => True) (fun _ => False) rfl rfl ?aP (fun _ hk => hk.elim) ?aF ?aO ?aB ?aS ?aL ?_); (case aP => exact rfl); (case aB => exact (by repeat (first | (with_reducible first | exact HB.out | apply below_alloc | apply pw_below_drewN | apply below_drew1) | exact HB.out))); (case aF => exact (fun _ _ => trivial)); (case aO => exact (by (with_reducible repeat (first | apply Kd.R_alloc | apply Kd.R_drewN | apply Kd.R_drew)); exact HO.out)); (case aS => exact (below_size (by repeat (first | (with_reducible first | exact HB.out | apply below_alloc | apply pw_below_drewN | apply below_drew1) | exact HB.out)))); (case aL => (try simp only [List.length_nil]); omega); intro v117 w10 ho hb hg hat; have HB2 := Aside0.mk hb; have HO2 := Aside0.mk ho; clear HB ho hb hg hat)
      all_goals
        go_step3
        refine ⟨rfl, ⟨_, xs ++ [at_], _, m, _, _, _, _, _, _, _, _, _, _, _, _, _, _, _, _, _, _, _, _, _, _, _, _, _, _, _, _, _, _, rfl, by omega, by omega, by simp; omega, ⟨HE2.out _ (by unfold onext mn; split <;> omega)⟩, ⟨by have := HN.out; omega⟩, ⟨HO2.out⟩, ⟨HB2.out⟩⟩, ?_⟩
        simp [intOf]
        omega
    · have HE2 : Aside0 (xs ++ [at_] = offs a0 true) := by
        refine ⟨?_⟩
        rw [← HE.out]
        cases n with
        | zero => rfl
        | succ n => rw [ofs, if_neg hlt]
      clear HE
      go_wp2_with ((with_reducible refine gate_builtin (b := .append) (xs := #[.tmp 22, .tmp 24]) rfl ?_); at_builtin; go_must (refine Kd.R_append (Kd.int .i64) (w0 := w) w.heap.size rfl (.tmp 22) (.tmp 24) 22 3 (.int .i64 0) 8 rfl Try.underlying22 info3 rfl (by decide) (by omega) _ xs (at_) [.int .i64 (at_)] (fun _ => True) (fun _ => False) rfl rfl ?aP (fun _ hk => hk.elim) ?aF ?aO ?aB ?aS ?aL ?_); (case aP => exact rfl); (case aB => exact (by repeat (first | (with_reducible first | exact HB.out | apply below_alloc | apply pw_below_drewN | apply below_drew1) | exact HB.out))); (case aF => exact (fun _ _ => trivial)); (case aO => exact (by (with_reducible repeat (first | apply Kd.R_alloc | apply Kd.R_drewN | apply Kd.R_drew)); exact HO.out)); (case aS => exact (below_size (by repeat (first | (with_reducible first | exact HB.out | apply below_alloc | apply pw_below_drewN | apply below_drew1) | exact HB.out)))); (case aL => (try simp only [List.length_nil]); omega); intro v117 w10 ho hb hg hat; have HB2 := Aside0.mk hb; have HO2 := Aside0.mk ho; clear HB ho hb hg hat)
      simp only [Exit.jump]
      go_ret2
      exact ⟨_, rfl, by rw [← HE2.out]; exact HO2.out, HB2.out⟩


set_option maxHeartbeats 400000 in
theorem band_Offsets.calls (a0 : Int) (a1 : Bool) (r1 : List Int) (r2 : Int) (w : World) (h : band_Offsets.f a0 a1 = some (r1, r2)) :
    Calls Try.prog 27 #[.int .i64 a0, .bool a1] w fun e w' => ∃ v0_ : Value, e = .returned (.tuple #[v0_, .int .i64 r2]) ∧ Kd.R (Kd.int .i64) 3 w' w.heap.size (fun _ => True) v0_ r1 ∧ Below w.heap.size w w' := by
  unfold band_Offsets.f at h
  by_cases h1 : a0 < 0
  · rw [if_pos h1] at h
    obtain ⟨rfl, rfl⟩ := Prod.mk.inj (Option.some.inj h)
    clear h
    go_enter Try.func27, Try.ntmps27
    go_wp2
    go_step3
    go_wp2
    rw [Exit.noGoto_ret]
    go_ret2
    exact ⟨_, rfl, Kd.R_nil _ _ _ _ _, Below.refl _ _⟩
  · rw [if_neg h1] at h
    by_cases h2 : 11 < a0
    · rw [if_pos h2] at h
      obtain ⟨rfl, rfl⟩ := Prod.mk.inj (Option.some.inj h)
      clear h
      go_enter Try.func27, Try.ntmps27
      go_wp2
      go_step3
      go_wp2
      rw [Exit.noGoto_ret]
      go_ret2
      exact ⟨_, rfl, Kd.R_nil _ _ _ _ _, Below.refl _ _⟩
    · rw [if_neg h2] at h
      obtain ⟨rfl, rfl⟩ := Prod.mk.inj (Option.some.inj h)
      clear h
      cases a1 with
      | false => exact offsets_long a0 (by omega) (by omega) w
      | true => exact offsets_short a0 (by omega) (by omega) w
end Go.Proofs.Ytcfkkdjnalbnoaa
