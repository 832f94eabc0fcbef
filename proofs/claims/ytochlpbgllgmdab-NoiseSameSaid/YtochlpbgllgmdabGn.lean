/-
  The contracts of package noise's inner functions: draw, filled.
-/
import Derived.Test.YtochlpbgllgmdabProg
import Derived.Below
import Derived.Deep.Draws
import Derived.Deep.AppendLies
import Derived.Maps.AppendAt
import Derived.OwnWalk
import Derived.WalkKit
import Derived.WalkSpells
import Derived.WalkLawsBesides
import Derived.Lib.Hide
import Derived.Test.YtochlpbgllgmdabWWords
import Derived.Test.YtochlpbgllgmdabWLast
import Derived.Test.YtochlpbgllgmdabWMore
import Derived.Test.YtochlpbgllgmdabMn
namespace Go.Proofs.Ytochlpbgllgmdab
open Go.RowKit Go.Proofs.YtochlpbgllgmdabW.PrintWords Go.Proofs.YtochlpbgllgmdabW.PrintLast Go.Proofs.YtochlpbgllgmdabW.PrintMore

theorem info3 : (Try.prog.info? 3).map (fun i => (i.zero, i.size, i.bytes)) = some (some (.int .i64 0), 1, 8) := by kernel_rfl

set_option maxHeartbeats 400000 in
theorem draw_x (b : Nat) (s : Int) (w : World) (hc : w.cell? ⟨b, 0, none⟩ = some (.int .u32 s)) (hf : w.frozen? ⟨b, 0, none⟩ = false) :
    Calls Try.prog 8 #[.pointer (some ⟨b, 0, none⟩)] w fun e w' => e = .returned (.int .i64 (drw (nxt s))) ∧ w' = w.setCell ⟨b, 0, none⟩ (.int .u32 (nxt s)) := by
  go_enter Try.func8, Try.ntmps8
  go_wp2
  go_ret
  exact ⟨rfl, rfl⟩

set_option maxRecDepth 100000 in
set_option maxHeartbeats 1000000 in
theorem filled_nil (B b : Nat) (w : World) (hB : B ≤ w.heap.size) :
    Calls Try.prog 7 #[.int .i64 0, .func (.func 8) #[.pointer (some ⟨b, 0, none⟩)] #[]] w fun e w' => ∃ v, e = .returned v ∧ Kd.R (Kd.int .i64) 3 w' w.heap.size (fun _ => True) v [] ∧ Below B w w' := by
  go_enter Try.func7, Try.ntmps7
  go_wp2_with (first | ((with_reducible refine gate_dst (N := 8) rfl ?_); refine Kd.R_make (w0 := w) (Kd.int .i64) _ 3 rfl (N := 8) rfl 25 _ _ rfl (0) rfl rfl Try.underlying25 (.int .i64 0) 8 info3 rfl (by decide) (by omega) 0 (ok := fun _ => True) (okp := fun _ => True) rfl (fun _ hk => hk) trivial (by omega) (by omega) (Below.refl _ _) (Nat.le_refl _) ?_; intro v8 w1 hR hb hg hnew; clear hg hnew; (simp only [Int.toNat_zero, List.replicate_zero] at hR); obtain ⟨A8, c8, rfl⟩ := Kd.R_slice hR; have HR := Aside0.mk hR; have HB := Aside0.mk (hb.mono hB); clear hR hb; (simp only [List.length_nil])))
  go_loop [11] (fun v11 => v11 = .int .i64 0) (fun _ => 0)
  case atStart => exact rfl
  case round =>
    obtain rfl := hrel
    go_wp2
    go_ret
    exact ⟨_, rfl, HR.out, HB.out⟩

set_option maxRecDepth 100000 in
set_option maxHeartbeats 1000000 in
theorem filled_x (B b m : Nat) (s : Int) (w : World) (hm0 : 0 < m) (hm : m ≤ 256) (hB : B ≤ b) (hbs : b < w.heap.size) (hc : w.cell? ⟨b, 0, none⟩ = some (.int .u32 s)) (hf : w.frozen? ⟨b, 0, none⟩ = false) (h0 : 0 ≤ s) (h1 : s < 4294967296) :
    Calls Try.prog 7 #[.int .i64 m, .func (.func 8) #[.pointer (some ⟨b, 0, none⟩)] #[]] w fun e w' => ∃ v, e = .returned v ∧ Kd.R (Kd.int .i64) 3 w' w.heap.size (fun _ => True) v (draws m s) ∧ Below B w w' := by
  go_enter Try.func7, Try.ntmps7
  go_wp2_with (first | ((with_reducible refine gate_dst (N := 8) rfl ?_); refine Kd.R_make (w0 := w) (Kd.int .i64) _ 3 rfl (N := 8) rfl 25 _ _ rfl (m) rfl rfl Try.underlying25 (.int .i64 0) 8 info3 rfl (by decide) (by omega) 0 (ok := fun _ => True) (okp := fun _ => True) rfl (fun _ hk => hk) trivial (by omega) (by omega) (Below.refl _ _) (Nat.le_refl _) ?_; intro v8 w1 hR hb hg hnew; clear hg hnew; rw [Int.toNat_natCast] at hR; obtain ⟨g, c8, rfl, hg1, hg2, _⟩ := Kd.R_form hR (by rw [List.length_replicate]; omega); have HR := Aside0.mk hR; have HB := Aside0.mk hb; clear hR hb; rw [List.length_replicate]))
  have HR0 := Aside0.mk (show Kd.R (Kd.int .i64) 3 w1 w.heap.size (fun _ => True) (.slice (some ⟨g, 0, none⟩) m c8) (List.replicate m 0) by have := HR.out; rwa [List.length_replicate] at this)
  have hc1 := (HB.out.cell (p := ⟨b, 0, none⟩) hbs).trans hc
  have hf1 := (HB.out.frozen (p := ⟨b, 0, none⟩) hbs).trans hf
  have HBB := Aside0.mk (HB.out.mono (show B ≤ w.heap.size by omega))
  clear HR HB hc hf
  go_loopw [11] (fun v11 wr => ∃ k : Nat, k ≤ m ∧ v11 = .int .i64 k ∧ Aside0 (Kd.R (Kd.int .i64) 3 wr w.heap.size (fun _ => True) (.slice (some ⟨g, 0, none⟩) m c8) (draws k s ++ List.replicate (m - k) 0)) ∧ wr.cell? ⟨b, 0, none⟩ = some (.int .u32 (sd k s)) ∧ wr.frozen? ⟨b, 0, none⟩ = false ∧ Aside0 (Below B w wr))
    (fun v11 _ => m - (intOf v11).toNat)
  case atStart => exact ⟨0, Nat.zero_le _, rfl, HR0, hc1, hf1, HBB⟩
  case round =>
    obtain ⟨k, hk, rfl, HR, hc2, hf2, HB⟩ := hrel
    clear HR0 hc1 hf1 HBB
    by_cases hlt : k < m
    · obtain ⟨s0, s1⟩ := sd_bd k s h0 h1
      have i0 : (0 : Int) ≤ (k : Int) := by omega
      have i1 : (k : Int) < (m : Int) := by omega
      go_wp2_with (go_at_call 8; refine (draw_x b (sd k s) _ hc2 hf2).mono ?_; rintro e w' ⟨rfl, rfl⟩; have hR2 := Kd.R_mono (Kd.R_far (p := ⟨b, 0, none⟩) (Kd.R_bound HR.out) (fun k' hk' => by have := hk'.2.1; show k' ≠ b; omega) (.int .u32 (nxt (sd k s)))) (fun _ hk' => hk'.1); obtain ⟨hx, hfx⟩ := Kd.R_celln 0 hR2 (k : Int) i0 i1; rw [Int.toNat_natCast] at hx hfx; have HR2 := Aside0.mk hR2; clear hR2)
      go_roundw
      case rel =>
        have hne : (⟨g, k, none⟩ : Addr) ≠ ⟨b, 0, none⟩ := by intro h; injection h with h1 _ _; omega
        have hp := Kd.R_putn HR2.out (k : Int) (drw (nxt (sd k s)))
        rw [Int.toNat_natCast, show drw (nxt (sd k s)) = drw (sd (k + 1) s) from rfl, draws_set m k s hlt] at hp
        exact ⟨k + 1, hlt, by go_num, ⟨hp⟩, by rw [World.cell?_setCell_other (h := hne), World.cell?_setCell_same' _ _ _ (by rw [hc2]; rfl)]; rfl, by rw [World.frozen?_setCell, World.frozen?_setCell]; exact hf2, ⟨(HB.out.setCell (p := ⟨b, 0, none⟩) hB _).setCell (p := ⟨g, k, none⟩) (by show B ≤ g; omega) _⟩⟩
      case measure => simp [intOf]; omega
    · have hkm : k = m := by omega
      subst hkm
      have HR3 := Aside0.mk HR.out
      clear HR hc2 hf2
      go_wp2
      go_ret
      refine ⟨_, rfl, ?_, HB.out⟩
      have := HR3.out
      rwa [Nat.sub_self, List.replicate_zero, List.append_nil] at this
end Go.Proofs.Ytochlpbgllgmdab
