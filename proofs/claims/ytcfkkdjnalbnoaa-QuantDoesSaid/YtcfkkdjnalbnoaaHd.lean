/-
  The contract of quant.each.
-/
import Derived.Test.YtcfkkdjnalbnoaaHc
import Derived.Test.YtcfkkdjnalbnoaaHr0
namespace Go.Proofs.Ytcfkkdjnalbnoaa
set_option linter.unusedSimpArgs false
attribute [local go_sem] Oper.semAt_some
open Go.RowKit Go.Shelf Go.Proofs.YtcfkkdjnalbnoaaW.PrintWords Go.Proofs.YtcfkkdjnalbnoaaW.PrintLast Go.Proofs.YtcfkkdjnalbnoaaW.PrintMore PrintI

set_option maxHeartbeats 400000 in
theorem places_x (rate seq shape max : Int) (A : Option Addr) (n c : Nat) (w : World) :
    Calls Try.prog 44 #[.int .i64 rate, .agg #[.int .u8 seq, .int .u8 shape, .int .i64 max, .slice A n c]] w fun e w' =>
      e = .returned (.func (.func 60) #[] #[.pointer (some ⟨w.heap.size + 1, 0, none⟩), .pointer (some ⟨w.heap.size, 0, none⟩)]) ∧
        w' = (w.alloc (.cells #[.int .i64 rate] 3)).alloc (.cells #[.int .u8 seq, .int .u8 shape, .int .i64 max, .slice A n c] 24) := by
  have hu := Try.underlying24
  go_enter Try.func44, Try.ntmps44
  go_wp2
  go_ret
  exact ⟨rfl, rfl⟩

theorem places_stops (n : Nat) (hn : 3 ≤ n) (g bi br : Nat) (rate seq shape max : Int) (A : Option Addr) (c : Nat) (gs : List Int) (hmay : MayBe rate seq shape max gs) (hs0 : 0 ≤ seq) (hs1 : seq ≤ 255) (hc1 : gs.length ≤ c) (w : World)
    (hbr : w.cell? ⟨br, 0, none⟩ = some (.int .i64 rate)) (hb0 : w.cell? ⟨bi, 0, none⟩ = some (.int .u8 seq)) (hb1 : w.cell? ⟨bi, 1, none⟩ = some (.int .u8 shape)) (hb2 : w.cell? ⟨bi, 2, none⟩ = some (.int .i64 max)) (hb3 : w.cell? ⟨bi, 3, none⟩ = some (.slice A gs.length c))
    (hgr : (Kd.int .i64).C w A gs.length gs) (ne1 : bi ≠ g) (ne3 : ∀ ad, A = some ad → 0 < gs.length → ad.block ≠ g) (hg : g < w.heap.size) :
    SeqStopsK Fence.wide n Try.prog 60 #[.pointer (some ⟨bi, 0, none⟩), .pointer (some ⟨br, 0, none⟩)] (fun x : { x : Int × Int × Int // okP gs.length max x } => #[.int .i64 x.1.1, .agg #[.int .i64 x.1.2.1, .int .i64 x.1.2.2]])
      (KpG g) (fun ys => ys.map (·.1) = plc rate seq max gs) (fun _ => True) (plc rate seq max gs).length w := fun l J Jx W hW hJ _ hY h0 =>
  places1_in n hn g bi br rate seq shape max A c gs hmay hs0 hs1 hc1 l J Jx W hJ (Nat.lt_of_lt_of_le hg hW.size) hY (cellof hW hbr) (cellof hW hb0) (cellof hW hb1) (cellof hW hb2) (cellof hW hb3) (Kd.C_below hgr hW) ne1 ne3 h0

/-- Noughts. -/
def z256 : List Int := List.replicate 256 0
/-- A place's line is put. -/
def putP (books steps : List (List Int)) (l : List Int) (h : Int → Int → Int) (out : List Int) (x : Int × Int × Int) : List Int :=
  if sentB (rd (rdl books x.2.1) x.2.2) = true then out.set x.1.toNat (h (rd l x.1) (rd (rdl steps x.2.1) x.2.2)) else out
def eachL (rate seq max : Int) (gs : List Int) (books steps : List (List Int)) (l : List Int) (h : Int → Int → Int) : List Int := (plc rate seq max gs).foldl (putP books steps l h) z256
theorem putP_len (books steps : List (List Int)) (l : List Int) (h : Int → Int → Int) (out : List Int) (x : Int × Int × Int) : (putP books steps l h out x).length = out.length := by
  unfold putP; split
  · rw [List.length_set]
  · rfl
theorem putP_no {books steps : List (List Int)} {l : List Int} {h : Int → Int → Int} {x : Int × Int × Int} (hx : sentB (rd (rdl books x.2.1) x.2.2) = false) : ∀ out, putP books steps l h out x = out := fun out => by
  unfold putP; rw [hx, if_neg (by decide)]
theorem putP_yes {books steps : List (List Int)} {l : List Int} {h : Int → Int → Int} {x : Int × Int × Int} {out : List Int} (hx : sentB (rd (rdl books x.2.1) x.2.2) = true) : putP books steps l h out x = out.set x.1.toNat (h (rd l x.1) (rd (rdl steps x.2.1) x.2.2)) := by
  unfold putP; rw [if_pos hx]
theorem KpG.set (g : Nat) (W : World) (j : Nat) (u : Value) : KpG g W (W.setCell ⟨g, j, none⟩ u) := ⟨(KeepsOthers.setCell W _ u).size, fun k _ hk ho _ => (Below.heap_setCell W ⟨g, j, none⟩ u k hk).trans ho⟩
theorem keepsOthers_below {W W' : World} (h : Below W.heap.size W W') : KeepsOthers W W' := ⟨h.size, fun k _ hk _ => (h.block k (Array.getElem?_eq_some_iff.1 hk).1).trans hk⟩
theorem fold_len (books steps : List (List Int)) (l : List Int) (h : Int → Int → Int) : ∀ (xs : List (Int × Int × Int)) (out : List Int), (xs.foldl (putP books steps l h) out).length = out.length
  | [], _ => rfl
  | x :: xs, out => by rw [List.foldl_cons, fold_len books steps l h xs, putP_len]

theorem infoInt : (Try.prog.info? 3).map (fun i => (i.zero, i.size, i.bytes)) = some (some (.int .i64 0), 1, 8) := by kernel_rfl

/-- make([]int, 256). -/
theorem mk256 (W : World) : ∃ W', Sem.run Try.prog (Instr.makeSlice 22 (.int .i64 256) (.int .i64 256)) W = .ok (.slice (some ⟨W.heap.size, 0, none⟩) 256 256) W' ∧
    Kd.R (Kd.int .i64) 3 W' W.heap.size (fun _ => True) (.slice (some ⟨W.heap.size, 0, none⟩) 256 256) z256 ∧ Below W.heap.size W W' ∧ W'.heap.size = W.heap.size + 1 := by
  obtain ⟨i0, hi, hzz⟩ := Option.map_eq_some_iff.1 infoInt
  simp only [Prod.mk.injEq] at hzz
  obtain ⟨hz0, hz1, hz2⟩ := hzz
  have hr := run_make (P := Try.prog) (w := W) 22 3 i0 (.int .i64 0) Try.underlying22 hi hz0 .i64 .i64 256 256 (by omega) (by omega) (by rw [hz2]; omega) (by omega)
  rw [hz1] at hr
  refine ⟨_, hr, ?_, (Below.refl _ _).alloc (Nat.le_refl _) _, by simp⟩
  exact Kd.R_of_own (enc := Value.int .i64) (xs := List.replicate 256 0) (by have := own_made_of (enc := Value.int .i64) (d := (0 : Int)) W W.heap.size 3 256 (Nat.le_refl _) (by omega); rw [List.length_replicate]; exact this) (fun _ _ => trivial)

/-- The world behind the boxes of quant.each. -/
abbrev w5 (w : World) (seq shape max : Int) (A1 : Option Addr) (n1 c1 : Nat) (A2 : Option Addr) (n2 c2 : Nat) (A3 : Option Addr) (n3 c3 : Nat) (A4 : Option Addr) (n4 c4 : Nat) (gf : Nat) : World :=
  ((((w.alloc (.cells #[.int .u8 seq, .int .u8 shape, .int .i64 max, .slice A1 n1 c1] 24)).alloc (.cells #[.slice A2 n2 c2] 25)).alloc (.cells #[.slice A3 n3 c3] 25)).alloc (.cells #[.slice A4 n4 c4] 22)).alloc (.cells #[.func (.func gf) #[] #[]] 37)
theorem w5_cells (w W : World) (seq shape max : Int) (A1 : Option Addr) (n1 c1 : Nat) (A2 : Option Addr) (n2 c2 : Nat) (A3 : Option Addr) (n3 c3 : Nat) (A4 : Option Addr) (n4 c4 : Nat) (gf : Nat) (h : Below (w5 w seq shape max A1 n1 c1 A2 n2 c2 A3 n3 c3 A4 n4 c4 gf).heap.size (w5 w seq shape max A1 n1 c1 A2 n2 c2 A3 n3 c3 A4 n4 c4 gf) W) :
    (W.cell? ⟨w.heap.size, 0, none⟩ = some (.int .u8 seq) ∧ W.cell? ⟨w.heap.size, 1, none⟩ = some (.int .u8 shape) ∧ W.cell? ⟨w.heap.size, 2, none⟩ = some (.int .i64 max) ∧ W.cell? ⟨w.heap.size, 3, none⟩ = some (.slice A1 n1 c1)) ∧
    W.cell? ⟨w.heap.size + 1, 0, none⟩ = some (.slice A2 n2 c2) ∧ W.cell? ⟨w.heap.size + 1 + 1, 0, none⟩ = some (.slice A3 n3 c3) ∧ W.cell? ⟨w.heap.size + 1 + 1 + 1, 0, none⟩ = some (.slice A4 n4 c4) ∧ W.cell? ⟨w.heap.size + 1 + 1 + 1 + 1, 0, none⟩ = some (.func (.func gf) #[] #[]) := by
  refine ⟨⟨?_, ?_, ?_, ?_⟩, ?_, ?_, ?_, ?_⟩
  all_goals
    refine cellof h ?_
    go_simp
theorem w5_below (w : World) (seq shape max : Int) (A1 : Option Addr) (n1 c1 : Nat) (A2 : Option Addr) (n2 c2 : Nat) (A3 : Option Addr) (n3 c3 : Nat) (A4 : Option Addr) (n4 c4 : Nat) (gf : Nat) : Below w.heap.size w (w5 w seq shape max A1 n1 c1 A2 n2 c2 A3 n3 c3 A4 n4 c4 gf) :=
  below_alloc (below_alloc (below_alloc (below_alloc (below_alloc (Below.refl _ _) _) _) _) _) _

abbrev w0_ (W6 : World) (g : Nat) (rate seq shape max : Int) (A1 : Option Addr) (n1 c1 : Nat) : World :=
  ((W6.alloc (.cells #[.slice (some ⟨g, 0, none⟩) 256 256] 22)).alloc (.cells #[.int .i64 rate] 3)).alloc (.cells #[.int .u8 seq, .int .u8 shape, .int .i64 max, .slice A1 n1 c1] 24)
theorem w0_cells (W6 : World) (g : Nat) (rate seq shape max : Int) (A1 : Option Addr) (n1 c1 : Nat) :
    Below W6.heap.size W6 (w0_ W6 g rate seq shape max A1 n1 c1) ∧ (w0_ W6 g rate seq shape max A1 n1 c1).cell? ⟨W6.heap.size, 0, none⟩ = some (.slice (some ⟨g, 0, none⟩) 256 256) ∧ (w0_ W6 g rate seq shape max A1 n1 c1).cell? ⟨W6.heap.size + 1, 0, none⟩ = some (.int .i64 rate) ∧
    (w0_ W6 g rate seq shape max A1 n1 c1).cell? ⟨W6.heap.size + 1 + 1, 0, none⟩ = some (.int .u8 seq) ∧ (w0_ W6 g rate seq shape max A1 n1 c1).cell? ⟨W6.heap.size + 1 + 1, 1, none⟩ = some (.int .u8 shape) ∧
    (w0_ W6 g rate seq shape max A1 n1 c1).cell? ⟨W6.heap.size + 1 + 1, 2, none⟩ = some (.int .i64 max) ∧ (w0_ W6 g rate seq shape max A1 n1 c1).cell? ⟨W6.heap.size + 1 + 1, 3, none⟩ = some (.slice A1 n1 c1) ∧ (w0_ W6 g rate seq shape max A1 n1 c1).heap.size = W6.heap.size + 3 := by
  refine ⟨below_alloc (below_alloc (below_alloc (Below.refl _ _) _) _) _, ?_, ?_, ?_, ?_, ?_, ?_, by simp⟩
  all_goals go_simp
theorem own_kpg {β : Type} {g B : Nat} {W0 : World} : OwnFrom B (fun (_ : β) W => KpG g W0 W) := fun _ _ _ _ hs hg hr => hs.trans (KpG.grown hg (fun r e => .inr (hr r e).2))
theorem own_row {β : Type} {e base B : Nat} {v : Value} {f : β → List Int} : OwnFrom B (fun (s : β) W => Kd.R (Kd.int .i64) e W base (fun _ => True) v (f s)) := fun _ _ _ _ hs hg hr =>
  Kd.R_mono (Kd.R_move (Kd.R_bound hs) (fun k hk => hg.block k hk.2.2.1 (fun e' => by
    obtain ⟨_, o, ho, hc⟩ := hr k e'.symm
    obtain ⟨_, _, _, q, _, cells, hcs⟩ := hk
    rw [hcs] at ho
    cases ho
    cases hc))) (fun _ _ => trivial)
set_option maxRecDepth 100000 in
set_option maxHeartbeats 4000000 in
theorem each_x (gf : Nat) (h : Int → Int → Int) (m : Int) (hcall : ∀ (x s : Int) (W : World), -m ≤ x → x ≤ m → 0 ≤ s → s ≤ 255 → Calls Try.prog gf #[.int .i64 x, .int .i64 s] W fun e w' => e = .returned (.tuple #[.int .i64 (h x s), .int .i64 0]) ∧ Below W.heap.size W w')
    (eg : ∀ args w, (callFunc gf args).run Try.prog w = .ok (.enter gf args) w)
    (rate seq shape max : Int) (A1 : Option Addr) (c1 : Nat) (gs : List Int) (A2 : Option Addr) (c2 : Nat) (books : List (List Int)) (A3 : Option Addr) (c3 : Nat) (steps : List (List Int)) (A4 : Option Addr) (c4 : Nat) (l : List Int) (w : World)
    (hr1 : Kd.C (Kd.int .i64) w A1 gs.length gs) (hc1 : gs.length ≤ c1)
    (hr2 : Kd.C (Kd.slice 3 (Kd.int .i64)) w A2 books.length books) (hr3 : Kd.C (Kd.slice 3 (Kd.int .i64)) w A3 steps.length steps)
    (hr4 : Kd.C (Kd.int .i64) w A4 l.length l) (hmay : MayBe rate seq shape max gs) (hs0 : 0 ≤ seq) (hs1 : seq ≤ 255) (hl2 : books.length = gs.length) (hl3 : steps.length = gs.length)
    (hr2' : ∀ k : Nat, k < gs.length → ((rdl books k).length : Int) = max) (hr3' : ∀ k : Nat, k < gs.length → ((rdl steps k).length : Int) = max) (hl4 : l.length = 256) (hlm : ∀ k : Nat, k < 256 → -m ≤ rd l k ∧ rd l k ≤ m)
    (hst : ∀ k b : Nat, k < gs.length → (b : Int) < max → sentB (rd (rdl books k) b) = true → 0 ≤ rd (rdl steps k) b ∧ rd (rdl steps k) b ≤ 255) :
    Calls Try.prog 25 #[.int .i64 rate, .agg #[.int .u8 seq, .int .u8 shape, .int .i64 max, .slice A1 gs.length c1], .slice A2 books.length c2, .slice A3 steps.length c3, .slice A4 l.length c4, .func (.func gf) #[] #[]] w
      fun e w' => ∃ v0, e = .returned v0 ∧ Kd.R (Kd.int .i64) 3 w' w.heap.size (fun _ => True) v0 (eachL rate seq max gs books steps l h) ∧ Below w.heap.size w w' := by
  have hu := Try.underlying24
  have HR1 := Aside0.mk hr1
  have HR2 := Aside0.mk hr2
  have HR3 := Aside0.mk hr3
  have HR4 := Aside0.mk hr4
  have HMAY := Lib.hid hmay
  have HCALL := Lib.hid hcall
  have HL2 := Lib.hid hl2
  have HL3 := Lib.hid hl3
  have HL4 := Lib.hid hl4
  have HR2' := Lib.hid hr2'
  have HR3' := Lib.hid hr3'
  have HLM := Lib.hid hlm
  have HST := Lib.hid hst
  clear hr1 hr2 hr3 hr4 hmay hcall hl2 hl3 hl4 hr2' hr3' hlm hst
  obtain ⟨W6, hmk, hR6, hB6, hZ6⟩ := mk256 (w5 w seq shape max A1 gs.length c1 A2 books.length c2 A3 steps.length c3 A4 l.length c4 gf)
  obtain ⟨⟨b0, b1, b2, b3⟩, b4, b5, b6, b7⟩ := w5_cells w W6 seq shape max A1 gs.length c1 A2 books.length c2 A3 steps.length c3 A4 l.length c4 gf hB6
  have hBW6 := below_step (w5_below w seq shape max A1 gs.length c1 A2 books.length c2 A3 steps.length c3 A4 l.length c4 gf) hB6
  obtain ⟨g, hg⟩ : ∃ g, g = (w5 w seq shape max A1 gs.length c1 A2 books.length c2 A3 steps.length c3 A4 l.length c4 gf).heap.size := ⟨_, rfl⟩
  rw [← hg] at hmk hR6 hZ6
  have HG := Lib.hid (show g = w.heap.size + 5 by rw [hg]; simp)
  have HZ6 := Lib.hid hZ6
  have HR6 := Aside0.mk hR6
  have HB6 := Aside0.mk hBW6
  have hA7 : Below W6.heap.size W6 (W6.alloc (.cells #[.slice (some ⟨g, 0, none⟩) 256 256] 22)) := below_alloc (Below.refl _ _) _
  have b0' := cellof hA7 b0
  have b1' := cellof hA7 b1
  have b2' := cellof hA7 b2
  have b3' := cellof hA7 b3
  have BX := Aside0.mk (show W6.cell? ⟨w.heap.size + 1, 0, none⟩ = some (.slice A2 books.length c2) ∧ W6.cell? ⟨w.heap.size + 1 + 1, 0, none⟩ = some (.slice A3 steps.length c3) ∧ W6.cell? ⟨w.heap.size + 1 + 1 + 1, 0, none⟩ = some (.slice A4 l.length c4) ∧ W6.cell? ⟨w.heap.size + 1 + 1 + 1 + 1, 0, none⟩ = some (.func (.func gf) #[] #[]) from ⟨b4, b5, b6, b7⟩)
  clear hg hR6 hB6 hZ6 hBW6 hA7 b0 b1 b2 b3 b4 b5 b6 b7
  refine (callsIn_wide (n := 9)).1 ?_
  refine callsIn_of_wp_marks Try.func25 rfl trivial ?_ rfl
  simp only [Try.ntmps25, List.size_toArray, List.length_cons, List.length_nil, Nat.reduceAdd, Nat.reduceSub, Array.replicate_succ, Array.replicate_zero, List.push_toArray, List.append_toArray, List.nil_append, List.cons_append]
  gi_wp2_with (refine ⟨trivial, ?_⟩; gi_at_call 44; refine (callsIn_wide.2 (places_x rate seq shape max A1 gs.length c1 _)).mono ?_; rintro e w' ⟨rfl, rfl⟩)
  have F := w0_cells W6 g rate seq shape max A1 gs.length c1
  obtain ⟨W0, hW0⟩ : ∃ W0, w0_ W6 g rate seq shape max A1 gs.length c1 = W0 := ⟨_, rfl⟩
  rw [hW0] at F
  rw [show ((W6.alloc (.cells #[.slice (some ⟨g, 0, none⟩) 256 256] 22)).alloc (.cells #[.int .i64 rate] 3)).alloc (.cells #[.int .u8 seq, .int .u8 shape, .int .i64 max, .slice A1 gs.length c1] 24) = W0 from hW0]
  obtain ⟨hB60, o0, p0, q0, q1, q2, q3, hsz0⟩ := F
  clear hW0
  have hBw0 := below_step HB6.out hB60
  have hR0 := Kd.R_lower (Kd.R_below HR6.out hB60) (show w.heap.size ≤ g by have := HG.out; omega)
  have hgW6 : g < W6.heap.size := by have := HZ6.out; omega
  have hgw : w.heap.size < g := by have := HG.out; omega
  have HSZ0 := Lib.hid hsz0
  have hHP : 3 ≤ 9 - 1 := by omega
  have hne3 : ∀ ad, A1 = some ad → 0 < gs.length → ad.block ≠ g := fun ad e hn => by
    obtain ⟨ad', e', hc⟩ := at_int HR1.out 0 (by omega) (by omega)
    rw [e] at e'
    cases e'
    have := World.block_lt_of_cell? w _ hc
    rw [add_block] at this
    omega
  refine wpIn_rangeFunc_ownH rfl (by omega) (gf := 60) (lb := #[.pointer (some ⟨W6.heap.size + 1 + 1, 0, none⟩), .pointer (some ⟨W6.heap.size + 1, 0, none⟩)]) rfl trivial (enters_of Try.func60 (by kernel_rfl) rfl)
    (places_stops (9 - 1) hHP g (W6.heap.size + 1 + 1) (W6.heap.size + 1) rate seq shape max A1 c1 gs HMAY.out hs0 hs1 hc1 W0 p0 q0 q1 q2 q3 (Kd.C_below HR1.out hBw0) (by omega) hne3 (by omega))
    KpG.trans kpg_b (Below.refl _ _) (fun _ => rfl)
    (fun pre W => Kd.R (Kd.int .i64) 3 W w.heap.size (fun _ => True) (.slice (some ⟨g, 0, none⟩) 256 256) ((pre.map (·.1)).foldl (putP books steps l h) z256) ∧ KpG g W0 W ∧ Below w.heap.size w W)
    (fun _ _ _ => False)
    (OwnFrom.and own_row (OwnFrom.and own_kpg (ownFrom_below (Nat.le_refl _) (by omega))))
    (fun _ _ _ _ _ hs _ _ => hs)
    ⟨hR0, KpG.refl _ _, hBw0⟩
    (fun x a' W => ∃ Bx, Bx ≠ g ∧ W.cell? ⟨Bx, 0, none⟩ = some (.int .i64 x.1.2.1) ∧ W.cell? ⟨Bx, 1, none⟩ = some (.int .i64 x.1.2.2) ∧ a' = { tmps := #[.int .i64 rate, .agg #[.int .u8 seq, .int .u8 shape, .int .i64 max, .slice A1 gs.length c1], .slice A2 books.length c2, .slice A3 steps.length c3, .slice A4 l.length c4, .func (.func gf) #[] #[], undef, .pointer (some ⟨w.heap.size, 0, none⟩), .pointer (some ⟨w.heap.size + 1, 0, none⟩), .pointer (some ⟨w.heap.size + 1 + 1, 0, none⟩), .pointer (some ⟨w.heap.size + 1 + 1 + 1, 0, none⟩), .pointer (some ⟨w.heap.size + 1 + 1 + 1 + 1, 0, none⟩), .slice none 0 0, .pointer (some ⟨W6.heap.size, 0, none⟩), .int .i64 x.1.1, .pointer (some ⟨Bx, 0, none⟩), .slice (some ⟨g, 0, none⟩) 256 256, .int .i64 rate, .agg #[.int .u8 seq, .int .u8 shape, .int .i64 max, .slice A1 gs.length c1], .func (.func 60) #[] #[.pointer (some ⟨W6.heap.size + 1 + 1, 0, none⟩), .pointer (some ⟨W6.heap.size + 1, 0, none⟩)], .int .i64 x.1.1, .agg #[.int .i64 x.1.2.1, .int .i64 x.1.2.2], undef, undef, undef, undef, undef, undef, undef, undef, undef, undef, undef, undef, undef, undef, undef, undef, undef, undef, undef, undef, undef, undef, undef, undef, undef, undef, undef, undef, undef, undef, undef, undef], defers := [] })
    (fun x a' _ X Y row hs hg hr => by obtain ⟨Bx, h1, h2, h3, h4⟩ := hs; exact ⟨Bx, h1, cell_kept h2 hg (fun r e => (hr r e).2), cell_kept h3 hg (fun r e => (hr r e).2), h4⟩)
    ?assign ?body ?done ?stop
  case assign =>
    rintro l' pre x W K ⟨hR, hK, hB⟩ hKK
    gi_wp2
    have hgW : W.heap.size ≠ g := by have := hK.size; omega
    exact hKK _ _ ((KeepsOthers.alloc _ _).from _) (KpG.below (below_alloc (Below.refl _ _) _)) ⟨Kd.R_alloc hR _, hK.trans (KpG.below (below_alloc (Below.refl _ _) _)), below_alloc hB _⟩ ⟨W.heap.size, hgW, by go_simp, by go_simp, rfl⟩
  case body =>
    rintro l' pre ⟨⟨xn, xg, xb⟩, hok⟩ a' W hl ⟨r, hr⟩ ⟨hR, hK, hB⟩ ⟨Bx, hBx, cx0, cx1, rfl⟩ hlt
    dsimp only at cx0 cx1
    dsimp only
    have HOK := Lib.hid hok
    obtain ⟨h1, h2, h3, h4, h5, h6⟩ := hok
    dsimp only at h1 h2 h3 h4 h5 h6
    obtain ⟨xn, rfl⟩ := Int.eq_ofNat_of_zero_le h1
    obtain ⟨xg, rfl⟩ := Int.eq_ofNat_of_zero_le h3
    obtain ⟨xb, rfl⟩ := Int.eq_ofNat_of_zero_le h5
    have k4 := hK.cell (p := ⟨w.heap.size + 1, 0, none⟩) (by have := HG.out; show w.heap.size + 1 ≠ g; omega) (cellof hB60 BX.out.1)
    have k5 := hK.cell (p := ⟨w.heap.size + 1 + 1, 0, none⟩) (by have := HG.out; show w.heap.size + 1 + 1 ≠ g; omega) (cellof hB60 BX.out.2.1)
    have k6 := hK.cell (p := ⟨w.heap.size + 1 + 1 + 1, 0, none⟩) (by have := HG.out; show w.heap.size + 1 + 1 + 1 ≠ g; omega) (cellof hB60 BX.out.2.2.1)
    have k7 := hK.cell (p := ⟨w.heap.size + 1 + 1 + 1 + 1, 0, none⟩) (by have := HG.out; show w.heap.size + 1 + 1 + 1 + 1 ≠ g; omega) (cellof hB60 BX.out.2.2.2)
    have k8 := hK.cell (p := ⟨W6.heap.size, 0, none⟩) (by show W6.heap.size ≠ g; omega) o0
    have i1 : (xg : Int) < (books.length : Int) := by have := HL2.out; omega
    have i2 : (xg : Int) < (steps.length : Int) := by have := HL3.out; omega
    have i3 : (xn : Int) < (l.length : Int) := by have := HL4.out; omega
    have n4 : w.heap.size + 1 ≠ g := by have := HG.out; omega
    have n5 : w.heap.size + 1 + 1 ≠ g := by have := HG.out; omega
    have n6 : w.heap.size + 1 + 1 + 1 ≠ g := by have := HG.out; omega
    have n7 : w.heap.size + 1 + 1 + 1 + 1 ≠ g := by have := HG.out; omega
    have n8 : W6.heap.size ≠ g := by omega
    obtain ⟨adB, AB, cB, hAB, hcB, _, hrB⟩ := at_row HR2.out (xg : Int) h3 i1
    obtain ⟨adS, AS, cS, hAS, hcS, _, hrS⟩ := at_row HR3.out (xg : Int) h3 i2
    obtain ⟨adL, hAL, hcL⟩ := at_int HR4.out (xn : Int) h1 i3
    have i4 : (xb : Int) < ((rdl books xg).length : Int) := by have := HR2'.out xg (by omega); omega
    have i5 : (xb : Int) < ((rdl steps xg).length : Int) := by have := HR3'.out xg (by omega); omega
    obtain ⟨bB, hbB, hcb⟩ := at_int hrB (xb : Int) h5 i4
    obtain ⟨bS, hbS, hcs⟩ := at_int hrS (xb : Int) h5 i5
    rw [Int.toNat_natCast] at hcB hcS hcL hcb hcs
    have nB : (adB.add xg).block ≠ g := by have := World.block_lt_of_cell? w _ hcB; omega
    have nS : (adS.add xg).block ≠ g := by have := World.block_lt_of_cell? w _ hcS; omega
    have nL : (adL.add xn).block ≠ g := by have := World.block_lt_of_cell? w _ hcL; omega
    have nb : (bB.add xb).block ≠ g := by have := World.block_lt_of_cell? w _ hcb; omega
    have ns : (bS.add xb).block ≠ g := by have := World.block_lt_of_cell? w _ hcs; omega
    have hcB := (hB.cell (World.block_lt_of_cell? w _ hcB)).trans hcB
    have hcS := (hB.cell (World.block_lt_of_cell? w _ hcS)).trans hcS
    have hcL := (hB.cell (World.block_lt_of_cell? w _ hcL)).trans hcL
    have hcb := (hB.cell (World.block_lt_of_cell? w _ hcb)).trans hcb
    have hcs := (hB.cell (World.block_lt_of_cell? w _ hcs)).trans hcs
    subst hAB hAS hAL hbB hbS
    have hmx : Try.prog.follows .mixedOrders = true := by kernel_rfl
    obtain ⟨bk, hbk⟩ : ∃ bk, bk = rd (rdl books xg) xb := ⟨_, rfl⟩
    obtain ⟨st, hst⟩ : ∃ st, st = rd (rdl steps xg) xb := ⟨_, rfl⟩
    obtain ⟨ln_, hln⟩ : ∃ ln_, ln_ = rd l xn := ⟨_, rfl⟩
    rw [← hbk] at hcb
    rw [← hst] at hcs
    rw [← hln] at hcL
    have HBK := Lib.hid hbk
    have HSTE := Lib.hid hst
    have HLNE := Lib.hid hln
    obtain ⟨bs, hbs⟩ : ∃ bs, bs = (rdl books xg).length := ⟨_, rfl⟩
    obtain ⟨ss, hss⟩ : ∃ ss, ss = (rdl steps xg).length := ⟨_, rfl⟩
    rw [← hbs] at hcB i4
    rw [← hss] at hcS i5
    have hROW := Aside0.mk hR
    have hKK := Aside0.mk hK
    have hBB := Aside0.mk hB
    have HS := Lib.hid (sent_x bk)
    obtain ⟨q, hq⟩ : ∃ q, q = sentB bk := ⟨_, rfl⟩
    rw [← hq] at HS
    have HQ := Lib.hid hq
    clear hbk hst hln hbs hss hR hK hB hrB hrS hr hl hlt hq o0 p0 q0 q1 q2 q3 hmk b0' b1' b2' b3' hsz0 hBw0 hR0
    have hD : KpG g W W.drew := KpG.below (below_drew (Below.refl _ _))
    cases q
    · gi_wp2
      refine region_round (S := KpG g W) hmx (by kernel_rfl) (by rintro ⟨_, _, h_⟩; exact h_) hD (fun hHeld => ?_)
      refine wpAnyH_take (i := 0) (v := ?_) rfl (by kernel_rfl) (by kernel_rfl) (by kernel_rfl) (fun _ _ _ h => h) (Or.inl ⟨by rfl, ?_⟩) hHeld ?_
      rotate_left
      · (intro w1 hS_; have f_ := hS_.cell (p := ⟨w.heap.size + 1, 0, none⟩) n4 k4; (try simp only [List.getElem_toArray, List.getElem_cons_succ, List.getElem_cons_zero]); go_simp <;> (with_reducible rfl))
      (try simp only [Act.put, List.getElem_toArray, List.getElem_cons_succ, List.getElem_cons_zero, List.setIfInBounds_toArray, List.set_cons_zero, List.set_cons_succ])
      refine wpAnyH_take (i := 1) (v := ?_) rfl (by kernel_rfl) (by kernel_rfl) (by kernel_rfl) (fun _ _ _ h => h) (Or.inl ⟨by rfl, ?_⟩) hHeld ?_
      rotate_left
      · (intro w1 hS_; (try simp only [List.getElem_toArray, List.getElem_cons_succ, List.getElem_cons_zero]); go_simp <;> (with_reducible rfl))
      (try simp only [Act.put, List.getElem_toArray, List.getElem_cons_succ, List.getElem_cons_zero, List.setIfInBounds_toArray, List.set_cons_zero, List.set_cons_succ])
      refine wpAnyH_take (i := 2) (v := ?_) rfl (by kernel_rfl) (by kernel_rfl) (by kernel_rfl) (fun _ _ _ h => h) (Or.inl ⟨by rfl, ?_⟩) hHeld ?_
      rotate_left
      · (intro w1 hS_; have f_ := hS_.cell (p := ⟨Bx, 0, none⟩) hBx cx0; (try simp only [List.getElem_toArray, List.getElem_cons_succ, List.getElem_cons_zero]); go_simp <;> (with_reducible rfl))
      (try simp only [Act.put, List.getElem_toArray, List.getElem_cons_succ, List.getElem_cons_zero, List.setIfInBounds_toArray, List.set_cons_zero, List.set_cons_succ])
      refine wpAnyH_take (i := 3) (v := ?_) rfl (by kernel_rfl) (by kernel_rfl) (by kernel_rfl) (fun _ _ _ h => h) (Or.inl ⟨by rfl, ?_⟩) hHeld ?_
      rotate_left
      · (intro w1 hS_; (try simp only [List.getElem_toArray, List.getElem_cons_succ, List.getElem_cons_zero]); go_simp <;> (with_reducible rfl))
      (try simp only [Act.put, List.getElem_toArray, List.getElem_cons_succ, List.getElem_cons_zero, List.setIfInBounds_toArray, List.set_cons_zero, List.set_cons_succ])
      refine wpAnyH_take (i := 4) (v := ?_) rfl (by kernel_rfl) (by kernel_rfl) (by kernel_rfl) (fun _ _ _ h => h) (Or.inl ⟨by rfl, ?_⟩) hHeld ?_
      rotate_left
      · (intro w1 hS_; have f_ := hS_.cell (p := adB.add xg) nB hcB; (try simp only [List.getElem_toArray, List.getElem_cons_succ, List.getElem_cons_zero]); go_simp <;> (with_reducible rfl))
      (try simp only [Act.put, List.getElem_toArray, List.getElem_cons_succ, List.getElem_cons_zero, List.setIfInBounds_toArray, List.set_cons_zero, List.set_cons_succ])
      refine wpAnyH_take (i := 5) (v := ?_) rfl (by kernel_rfl) (by kernel_rfl) (by kernel_rfl) (fun _ _ _ h => h) (Or.inl ⟨by rfl, ?_⟩) hHeld ?_
      rotate_left
      · (intro w1 hS_; (try simp only [List.getElem_toArray, List.getElem_cons_succ, List.getElem_cons_zero]); go_simp <;> (with_reducible rfl))
      (try simp only [Act.put, List.getElem_toArray, List.getElem_cons_succ, List.getElem_cons_zero, List.setIfInBounds_toArray, List.set_cons_zero, List.set_cons_succ])
      refine wpAnyH_take (i := 6) (v := ?_) rfl (by kernel_rfl) (by kernel_rfl) (by kernel_rfl) (fun _ _ _ h => h) (Or.inl ⟨by rfl, ?_⟩) hHeld ?_
      rotate_left
      · (intro w1 hS_; have f_ := hS_.cell (p := ⟨Bx, 1, none⟩) hBx cx1; (try simp only [List.getElem_toArray, List.getElem_cons_succ, List.getElem_cons_zero]); go_simp <;> (with_reducible rfl))
      (try simp only [Act.put, List.getElem_toArray, List.getElem_cons_succ, List.getElem_cons_zero, List.setIfInBounds_toArray, List.set_cons_zero, List.set_cons_succ])
      refine wpAnyH_take (i := 7) (v := ?_) rfl (by kernel_rfl) (by kernel_rfl) (by kernel_rfl) (fun _ _ _ h => h) (Or.inl ⟨by rfl, ?_⟩) hHeld ?_
      rotate_left
      · (intro w1 hS_; (try simp only [List.getElem_toArray, List.getElem_cons_succ, List.getElem_cons_zero]); go_simp <;> (with_reducible rfl))
      (try simp only [Act.put, List.getElem_toArray, List.getElem_cons_succ, List.getElem_cons_zero, List.setIfInBounds_toArray, List.set_cons_zero, List.set_cons_succ])
      refine wpAnyH_take (i := 8) (v := ?_) rfl (by kernel_rfl) (by kernel_rfl) (by kernel_rfl) (fun _ _ _ h => h) (Or.inl ⟨by rfl, ?_⟩) hHeld ?_
      rotate_left
      · (intro w1 hS_; have f_ := hS_.cell (p := bB.add xb) nb hcb; (try simp only [List.getElem_toArray, List.getElem_cons_succ, List.getElem_cons_zero]); go_simp <;> (with_reducible rfl))
      (try simp only [Act.put, List.getElem_toArray, List.getElem_cons_succ, List.getElem_cons_zero, List.setIfInBounds_toArray, List.set_cons_zero, List.set_cons_succ])
      refine wpAnyH_ready (rs := [9]) (by kernel_rfl) (by simp) ?_
      refine AllReadyH.cons rfl (fun K_ hK_ => ?_) AllReadyH.nil
      (try simp only [Act.put, List.getElem_toArray, List.getElem_cons_succ, List.getElem_cons_zero, List.setIfInBounds_toArray, List.set_cons_zero, List.set_cons_succ])
      go_simp
      refine (HS.out _).mono ?_
      rintro e w' ⟨rfl, rfl⟩
      (try go_simp)
      refine hK_.out _ _ hHeld (fun hHeld => ?_)
      clear hK_ K_
      refine wpAnyH_done (by kernel_rfl) ?_ _
      gi_wp2
      have HP := Lib.hid (putP_no (books := books) (steps := steps) (l := l) (h := h) (x := ((xn : Int), (xg : Int), (xb : Int))) (by show sentB (rd (rdl books xg) xb) = false; rw [← HBK.out, ← HQ.out]))
      refine ⟨(KeepsOthers.drew W).from _, hD, ?_, hKK.out.trans hD, below_drew hBB.out⟩
      rw [List.map_append, List.foldl_append]
      show Kd.R _ _ _ _ _ _ (putP books steps l h _ ((xn : Int), (xg : Int), (xb : Int)))
      rw [HP.out]
      exact Kd.R_drew hROW.out
    · gi_wp2
      refine region_round (S := KpG g W) hmx (by kernel_rfl) (by rintro ⟨_, _, h_⟩; exact h_) hD (fun hHeld => ?_)
      refine wpAnyH_take (i := 0) (v := ?_) rfl (by kernel_rfl) (by kernel_rfl) (by kernel_rfl) (fun _ _ _ h => h) (Or.inl ⟨by rfl, ?_⟩) hHeld ?_
      rotate_left
      · (intro w1 hS_; have f_ := hS_.cell (p := ⟨w.heap.size + 1, 0, none⟩) n4 k4; (try simp only [List.getElem_toArray, List.getElem_cons_succ, List.getElem_cons_zero]); go_simp <;> (with_reducible rfl))
      (try simp only [Act.put, List.getElem_toArray, List.getElem_cons_succ, List.getElem_cons_zero, List.setIfInBounds_toArray, List.set_cons_zero, List.set_cons_succ])
      refine wpAnyH_take (i := 1) (v := ?_) rfl (by kernel_rfl) (by kernel_rfl) (by kernel_rfl) (fun _ _ _ h => h) (Or.inl ⟨by rfl, ?_⟩) hHeld ?_
      rotate_left
      · (intro w1 hS_; (try simp only [List.getElem_toArray, List.getElem_cons_succ, List.getElem_cons_zero]); go_simp <;> (with_reducible rfl))
      (try simp only [Act.put, List.getElem_toArray, List.getElem_cons_succ, List.getElem_cons_zero, List.setIfInBounds_toArray, List.set_cons_zero, List.set_cons_succ])
      refine wpAnyH_take (i := 2) (v := ?_) rfl (by kernel_rfl) (by kernel_rfl) (by kernel_rfl) (fun _ _ _ h => h) (Or.inl ⟨by rfl, ?_⟩) hHeld ?_
      rotate_left
      · (intro w1 hS_; have f_ := hS_.cell (p := ⟨Bx, 0, none⟩) hBx cx0; (try simp only [List.getElem_toArray, List.getElem_cons_succ, List.getElem_cons_zero]); go_simp <;> (with_reducible rfl))
      (try simp only [Act.put, List.getElem_toArray, List.getElem_cons_succ, List.getElem_cons_zero, List.setIfInBounds_toArray, List.set_cons_zero, List.set_cons_succ])
      refine wpAnyH_take (i := 3) (v := ?_) rfl (by kernel_rfl) (by kernel_rfl) (by kernel_rfl) (fun _ _ _ h => h) (Or.inl ⟨by rfl, ?_⟩) hHeld ?_
      rotate_left
      · (intro w1 hS_; (try simp only [List.getElem_toArray, List.getElem_cons_succ, List.getElem_cons_zero]); go_simp <;> (with_reducible rfl))
      (try simp only [Act.put, List.getElem_toArray, List.getElem_cons_succ, List.getElem_cons_zero, List.setIfInBounds_toArray, List.set_cons_zero, List.set_cons_succ])
      refine wpAnyH_take (i := 4) (v := ?_) rfl (by kernel_rfl) (by kernel_rfl) (by kernel_rfl) (fun _ _ _ h => h) (Or.inl ⟨by rfl, ?_⟩) hHeld ?_
      rotate_left
      · (intro w1 hS_; have f_ := hS_.cell (p := adB.add xg) nB hcB; (try simp only [List.getElem_toArray, List.getElem_cons_succ, List.getElem_cons_zero]); go_simp <;> (with_reducible rfl))
      (try simp only [Act.put, List.getElem_toArray, List.getElem_cons_succ, List.getElem_cons_zero, List.setIfInBounds_toArray, List.set_cons_zero, List.set_cons_succ])
      refine wpAnyH_take (i := 5) (v := ?_) rfl (by kernel_rfl) (by kernel_rfl) (by kernel_rfl) (fun _ _ _ h => h) (Or.inl ⟨by rfl, ?_⟩) hHeld ?_
      rotate_left
      · (intro w1 hS_; (try simp only [List.getElem_toArray, List.getElem_cons_succ, List.getElem_cons_zero]); go_simp <;> (with_reducible rfl))
      (try simp only [Act.put, List.getElem_toArray, List.getElem_cons_succ, List.getElem_cons_zero, List.setIfInBounds_toArray, List.set_cons_zero, List.set_cons_succ])
      refine wpAnyH_take (i := 6) (v := ?_) rfl (by kernel_rfl) (by kernel_rfl) (by kernel_rfl) (fun _ _ _ h => h) (Or.inl ⟨by rfl, ?_⟩) hHeld ?_
      rotate_left
      · (intro w1 hS_; have f_ := hS_.cell (p := ⟨Bx, 1, none⟩) hBx cx1; (try simp only [List.getElem_toArray, List.getElem_cons_succ, List.getElem_cons_zero]); go_simp <;> (with_reducible rfl))
      (try simp only [Act.put, List.getElem_toArray, List.getElem_cons_succ, List.getElem_cons_zero, List.setIfInBounds_toArray, List.set_cons_zero, List.set_cons_succ])
      refine wpAnyH_take (i := 7) (v := ?_) rfl (by kernel_rfl) (by kernel_rfl) (by kernel_rfl) (fun _ _ _ h => h) (Or.inl ⟨by rfl, ?_⟩) hHeld ?_
      rotate_left
      · (intro w1 hS_; (try simp only [List.getElem_toArray, List.getElem_cons_succ, List.getElem_cons_zero]); go_simp <;> (with_reducible rfl))
      (try simp only [Act.put, List.getElem_toArray, List.getElem_cons_succ, List.getElem_cons_zero, List.setIfInBounds_toArray, List.set_cons_zero, List.set_cons_succ])
      refine wpAnyH_take (i := 8) (v := ?_) rfl (by kernel_rfl) (by kernel_rfl) (by kernel_rfl) (fun _ _ _ h => h) (Or.inl ⟨by rfl, ?_⟩) hHeld ?_
      rotate_left
      · (intro w1 hS_; have f_ := hS_.cell (p := bB.add xb) nb hcb; (try simp only [List.getElem_toArray, List.getElem_cons_succ, List.getElem_cons_zero]); go_simp <;> (with_reducible rfl))
      (try simp only [Act.put, List.getElem_toArray, List.getElem_cons_succ, List.getElem_cons_zero, List.setIfInBounds_toArray, List.set_cons_zero, List.set_cons_succ])
      refine wpAnyH_ready (rs := [9]) (by kernel_rfl) (by simp) ?_
      refine AllReadyH.cons rfl (fun K_ hK_ => ?_) AllReadyH.nil
      (try simp only [Act.put, List.getElem_toArray, List.getElem_cons_succ, List.getElem_cons_zero, List.setIfInBounds_toArray, List.set_cons_zero, List.set_cons_succ])
      go_simp
      refine (HS.out _).mono ?_
      rintro e w' ⟨rfl, rfl⟩
      (try go_simp)
      refine hK_.out _ _ hHeld (fun hHeld => ?_)
      clear hK_ K_
      refine wpAnyH_done (by kernel_rfl) ?_ _
      gi_wp2
      have HP := Lib.hid (fun out => putP_yes (books := books) (steps := steps) (l := l) (h := h) (out := out) (x := ((xn : Int), (xg : Int), (xb : Int))) (by show sentB (rd (rdl books xg) xb) = true; rw [← HBK.out, ← HQ.out]))
      obtain ⟨z1, z2⟩ := HLM.out xn (by omega)
      rw [← HLNE.out] at z1 z2
      obtain ⟨z3, z4⟩ := HST.out xg xb (by omega) h6 (by rw [← HBK.out, ← HQ.out])
      rw [← HSTE.out] at z3 z4
      have HC := Lib.hid (fun W => HCALL.out ln_ st W z1 z2 z3 z4)
      clear z1 z2 z3 z4
      have hD2 : KpG g W W.drew.drew := KpG.below (below_drew (below_drew (Below.refl _ _)))
      clear hHeld
      refine region_round (S := KpG g W) hmx (by kernel_rfl) (by rintro ⟨_, _, h_⟩; exact h_) hD2 (fun hHeld => ?_)
      refine wpAnyH_take (i := 0) (v := ?_) rfl (by kernel_rfl) (by kernel_rfl) (by kernel_rfl) (fun _ _ _ h => h) (Or.inl ⟨by rfl, ?_⟩) hHeld ?_
      rotate_left
      · (intro w1 hS_; have f_ := hS_.cell (p := ⟨W6.heap.size, 0, none⟩) n8 k8; (try simp only [List.getElem_toArray, List.getElem_cons_succ, List.getElem_cons_zero]); go_simp <;> (with_reducible rfl))
      (try simp only [Act.put, List.getElem_toArray, List.getElem_cons_succ, List.getElem_cons_zero, List.setIfInBounds_toArray, List.set_cons_zero, List.set_cons_succ])
      refine wpAnyH_take (i := 1) (v := ?_) rfl (by kernel_rfl) (by kernel_rfl) (by kernel_rfl) (fun _ _ _ h => h) (Or.inl ⟨by rfl, ?_⟩) hHeld ?_
      rotate_left
      · (intro w1 hS_; (try simp only [List.getElem_toArray, List.getElem_cons_succ, List.getElem_cons_zero]); go_simp <;> (with_reducible rfl))
      (try simp only [Act.put, List.getElem_toArray, List.getElem_cons_succ, List.getElem_cons_zero, List.setIfInBounds_toArray, List.set_cons_zero, List.set_cons_succ])
      refine wpAnyH_take (i := 2) (v := ?_) rfl (by kernel_rfl) (by kernel_rfl) (by kernel_rfl) (fun _ _ _ h => h) (Or.inl ⟨by rfl, ?_⟩) hHeld ?_
      rotate_left
      · (intro w1 hS_; have f_ := hS_.cell (p := ⟨w.heap.size + 1 + 1 + 1 + 1, 0, none⟩) n7 k7; (try simp only [List.getElem_toArray, List.getElem_cons_succ, List.getElem_cons_zero]); go_simp <;> (with_reducible rfl))
      (try simp only [Act.put, List.getElem_toArray, List.getElem_cons_succ, List.getElem_cons_zero, List.setIfInBounds_toArray, List.set_cons_zero, List.set_cons_succ])
      refine wpAnyH_take (i := 3) (v := ?_) rfl (by kernel_rfl) (by kernel_rfl) (by kernel_rfl) (fun _ _ _ h => h) (Or.inl ⟨by rfl, ?_⟩) hHeld ?_
      rotate_left
      · (intro w1 hS_; have f_ := hS_.cell (p := ⟨w.heap.size + 1 + 1 + 1, 0, none⟩) n6 k6; (try simp only [List.getElem_toArray, List.getElem_cons_succ, List.getElem_cons_zero]); go_simp <;> (with_reducible rfl))
      (try simp only [Act.put, List.getElem_toArray, List.getElem_cons_succ, List.getElem_cons_zero, List.setIfInBounds_toArray, List.set_cons_zero, List.set_cons_succ])
      refine wpAnyH_take (i := 4) (v := ?_) rfl (by kernel_rfl) (by kernel_rfl) (by kernel_rfl) (fun _ _ _ h => h) (Or.inl ⟨by rfl, ?_⟩) hHeld ?_
      rotate_left
      · (intro w1 hS_; (try simp only [List.getElem_toArray, List.getElem_cons_succ, List.getElem_cons_zero]); go_simp <;> (with_reducible rfl))
      (try simp only [Act.put, List.getElem_toArray, List.getElem_cons_succ, List.getElem_cons_zero, List.setIfInBounds_toArray, List.set_cons_zero, List.set_cons_succ])
      refine wpAnyH_take (i := 5) (v := ?_) rfl (by kernel_rfl) (by kernel_rfl) (by kernel_rfl) (fun _ _ _ h => h) (Or.inl ⟨by rfl, ?_⟩) hHeld ?_
      rotate_left
      · (intro w1 hS_; (try simp only [List.getElem_toArray, List.getElem_cons_succ, List.getElem_cons_zero]); go_simp <;> (with_reducible rfl))
      (try simp only [Act.put, List.getElem_toArray, List.getElem_cons_succ, List.getElem_cons_zero, List.setIfInBounds_toArray, List.set_cons_zero, List.set_cons_succ])
      refine wpAnyH_take (i := 6) (v := ?_) rfl (by kernel_rfl) (by kernel_rfl) (by kernel_rfl) (fun _ _ _ h => h) (Or.inl ⟨by rfl, ?_⟩) hHeld ?_
      rotate_left
      · (intro w1 hS_; have f_ := hS_.cell (p := adL.add xn) nL hcL; (try simp only [List.getElem_toArray, List.getElem_cons_succ, List.getElem_cons_zero]); go_simp <;> (with_reducible rfl))
      (try simp only [Act.put, List.getElem_toArray, List.getElem_cons_succ, List.getElem_cons_zero, List.setIfInBounds_toArray, List.set_cons_zero, List.set_cons_succ])
      refine wpAnyH_take (i := 7) (v := ?_) rfl (by kernel_rfl) (by kernel_rfl) (by kernel_rfl) (fun _ _ _ h => h) (Or.inl ⟨by rfl, ?_⟩) hHeld ?_
      rotate_left
      · (intro w1 hS_; have f_ := hS_.cell (p := ⟨w.heap.size + 1 + 1, 0, none⟩) n5 k5; (try simp only [List.getElem_toArray, List.getElem_cons_succ, List.getElem_cons_zero]); go_simp <;> (with_reducible rfl))
      (try simp only [Act.put, List.getElem_toArray, List.getElem_cons_succ, List.getElem_cons_zero, List.setIfInBounds_toArray, List.set_cons_zero, List.set_cons_succ])
      refine wpAnyH_take (i := 8) (v := ?_) rfl (by kernel_rfl) (by kernel_rfl) (by kernel_rfl) (fun _ _ _ h => h) (Or.inl ⟨by rfl, ?_⟩) hHeld ?_
      rotate_left
      · (intro w1 hS_; (try simp only [List.getElem_toArray, List.getElem_cons_succ, List.getElem_cons_zero]); go_simp <;> (with_reducible rfl))
      (try simp only [Act.put, List.getElem_toArray, List.getElem_cons_succ, List.getElem_cons_zero, List.setIfInBounds_toArray, List.set_cons_zero, List.set_cons_succ])
      refine wpAnyH_take (i := 9) (v := ?_) rfl (by kernel_rfl) (by kernel_rfl) (by kernel_rfl) (fun _ _ _ h => h) (Or.inl ⟨by rfl, ?_⟩) hHeld ?_
      rotate_left
      · (intro w1 hS_; have f_ := hS_.cell (p := ⟨Bx, 0, none⟩) hBx cx0; (try simp only [List.getElem_toArray, List.getElem_cons_succ, List.getElem_cons_zero]); go_simp <;> (with_reducible rfl))
      (try simp only [Act.put, List.getElem_toArray, List.getElem_cons_succ, List.getElem_cons_zero, List.setIfInBounds_toArray, List.set_cons_zero, List.set_cons_succ])
      refine wpAnyH_take (i := 10) (v := ?_) rfl (by kernel_rfl) (by kernel_rfl) (by kernel_rfl) (fun _ _ _ h => h) (Or.inl ⟨by rfl, ?_⟩) hHeld ?_
      rotate_left
      · (intro w1 hS_; (try simp only [List.getElem_toArray, List.getElem_cons_succ, List.getElem_cons_zero]); go_simp <;> (with_reducible rfl))
      (try simp only [Act.put, List.getElem_toArray, List.getElem_cons_succ, List.getElem_cons_zero, List.setIfInBounds_toArray, List.set_cons_zero, List.set_cons_succ])
      refine wpAnyH_take (i := 11) (v := ?_) rfl (by kernel_rfl) (by kernel_rfl) (by kernel_rfl) (fun _ _ _ h => h) (Or.inl ⟨by rfl, ?_⟩) hHeld ?_
      rotate_left
      · (intro w1 hS_; have f_ := hS_.cell (p := adS.add xg) nS hcS; (try simp only [List.getElem_toArray, List.getElem_cons_succ, List.getElem_cons_zero]); go_simp <;> (with_reducible rfl))
      (try simp only [Act.put, List.getElem_toArray, List.getElem_cons_succ, List.getElem_cons_zero, List.setIfInBounds_toArray, List.set_cons_zero, List.set_cons_succ])
      refine wpAnyH_take (i := 12) (v := ?_) rfl (by kernel_rfl) (by kernel_rfl) (by kernel_rfl) (fun _ _ _ h => h) (Or.inl ⟨by rfl, ?_⟩) hHeld ?_
      rotate_left
      · (intro w1 hS_; (try simp only [List.getElem_toArray, List.getElem_cons_succ, List.getElem_cons_zero]); go_simp <;> (with_reducible rfl))
      (try simp only [Act.put, List.getElem_toArray, List.getElem_cons_succ, List.getElem_cons_zero, List.setIfInBounds_toArray, List.set_cons_zero, List.set_cons_succ])
      refine wpAnyH_take (i := 13) (v := ?_) rfl (by kernel_rfl) (by kernel_rfl) (by kernel_rfl) (fun _ _ _ h => h) (Or.inl ⟨by rfl, ?_⟩) hHeld ?_
      rotate_left
      · (intro w1 hS_; have f_ := hS_.cell (p := ⟨Bx, 1, none⟩) hBx cx1; (try simp only [List.getElem_toArray, List.getElem_cons_succ, List.getElem_cons_zero]); go_simp <;> (with_reducible rfl))
      (try simp only [Act.put, List.getElem_toArray, List.getElem_cons_succ, List.getElem_cons_zero, List.setIfInBounds_toArray, List.set_cons_zero, List.set_cons_succ])
      refine wpAnyH_take (i := 14) (v := ?_) rfl (by kernel_rfl) (by kernel_rfl) (by kernel_rfl) (fun _ _ _ h => h) (Or.inl ⟨by rfl, ?_⟩) hHeld ?_
      rotate_left
      · (intro w1 hS_; (try simp only [List.getElem_toArray, List.getElem_cons_succ, List.getElem_cons_zero]); go_simp <;> (with_reducible rfl))
      (try simp only [Act.put, List.getElem_toArray, List.getElem_cons_succ, List.getElem_cons_zero, List.setIfInBounds_toArray, List.set_cons_zero, List.set_cons_succ])
      refine wpAnyH_take (i := 15) (v := ?_) rfl (by kernel_rfl) (by kernel_rfl) (by kernel_rfl) (fun _ _ _ h => h) (Or.inl ⟨by rfl, ?_⟩) hHeld ?_
      rotate_left
      · (intro w1 hS_; have f_ := hS_.cell (p := bS.add xb) ns hcs; (try simp only [List.getElem_toArray, List.getElem_cons_succ, List.getElem_cons_zero]); go_simp <;> (with_reducible rfl))
      (try simp only [Act.put, List.getElem_toArray, List.getElem_cons_succ, List.getElem_cons_zero, List.setIfInBounds_toArray, List.set_cons_zero, List.set_cons_succ])
      refine wpAnyH_ready (rs := [16]) (by kernel_rfl) (by simp) ?_
      refine AllReadyH.cons rfl (fun K_ hK_ => ?_) AllReadyH.nil
      (try simp only [Act.put, List.getElem_toArray, List.getElem_cons_succ, List.getElem_cons_zero, List.setIfInBounds_toArray, List.set_cons_zero, List.set_cons_succ])
      go_simp
      refine (HC.out _).mono ?_
      rintro e W7 ⟨rfl, hb7⟩
      (try go_simp)
      refine hK_.out _ _ (hHeld.trans (KpG.below hb7)) (fun hHeld => ?_)
      clear hK_ K_
      (try simp only [Act.put, List.getElem_toArray, List.getElem_cons_succ, List.getElem_cons_zero, List.setIfInBounds_toArray, List.set_cons_zero, List.set_cons_succ])
      refine wpAnyH_take (i := 17) (v := ?_) rfl (by kernel_rfl) (by kernel_rfl) (by kernel_rfl) (fun _ _ _ h => h) (Or.inl ⟨by rfl, ?_⟩) hHeld ?_
      rotate_left
      · (intro w1 hS_; (try simp only [List.getElem_toArray, List.getElem_cons_succ, List.getElem_cons_zero]); go_simp <;> (with_reducible rfl))
      (try simp only [Act.put, List.getElem_toArray, List.getElem_cons_succ, List.getElem_cons_zero, List.setIfInBounds_toArray, List.set_cons_zero, List.set_cons_succ])
      refine wpAnyH_take (i := 18) (v := ?_) rfl (by kernel_rfl) (by kernel_rfl) (by kernel_rfl) (fun _ _ _ h => h) (Or.inl ⟨by rfl, ?_⟩) hHeld ?_
      rotate_left
      · (intro w1 hS_; (try simp only [List.getElem_toArray, List.getElem_cons_succ, List.getElem_cons_zero]); go_simp <;> (with_reducible rfl))
      (try simp only [Act.put, List.getElem_toArray, List.getElem_cons_succ, List.getElem_cons_zero, List.setIfInBounds_toArray, List.set_cons_zero, List.set_cons_succ])
      refine wpAnyH_take (i := 19) (v := ?_) rfl (by kernel_rfl) (by kernel_rfl) (by kernel_rfl) (fun _ _ _ h => h) (Or.inl ⟨by rfl, ?_⟩) hHeld ?_
      rotate_left
      · (intro w1 hS_; (try simp only [List.getElem_toArray, List.getElem_cons_succ, List.getElem_cons_zero]); go_simp <;> (with_reducible rfl))
      (try simp only [Act.put, List.getElem_toArray, List.getElem_cons_succ, List.getElem_cons_zero, List.setIfInBounds_toArray, List.set_cons_zero, List.set_cons_succ])
      refine wpAnyH_take (i := 20) (v := ?_) rfl (by kernel_rfl) (by kernel_rfl) (by kernel_rfl) (fun _ _ _ h => h) (Or.inl ⟨by rfl, ?_⟩) hHeld ?_
      rotate_left
      · (intro w1 hS_; (try simp only [List.getElem_toArray, List.getElem_cons_succ, List.getElem_cons_zero]); go_simp <;> (with_reducible rfl))
      (try simp only [Act.put, List.getElem_toArray, List.getElem_cons_succ, List.getElem_cons_zero, List.setIfInBounds_toArray, List.set_cons_zero, List.set_cons_succ])
      have hRw := Aside0.mk (Kd.R_below (Kd.R_drew (Kd.R_drew hROW.out)) hb7)
      have hcg := Kd.R_celln 0 hRw.out (xn : Int) h1 (by omega)
      rw [Int.toNat_natCast] at hcg
      obtain ⟨cg, fg⟩ := hcg
      refine wpAnyH_ready (rs := [21]) (by kernel_rfl) (by simp) ?_
      refine AllReadyH.cons rfl (fun K_ hK_ => ?_) AllReadyH.nil
      (try simp only [Act.put, List.getElem_toArray, List.getElem_cons_succ, List.getElem_cons_zero, List.setIfInBounds_toArray, List.set_cons_zero, List.set_cons_succ])
      go_simp
      refine hK_.out _ _ (hHeld.trans (KpG.set g W7 xn _)) (fun hHeld => ?_)
      clear hK_ K_
      refine wpAnyH_done (by kernel_rfl) ?_ _
      gi_wp2
      refine ⟨((((KeepsOthers.drew W).trans (KeepsOthers.drew _)).trans (keepsOthers_below hb7)).trans (KeepsOthers.setCell _ _ _)).from _, hHeld, ?_, hKK.out.trans hHeld, (below_step (below_drew (below_drew hBB.out)) hb7).setCell (p := ⟨g, xn, none⟩) (by show w.heap.size ≤ g; omega) _⟩
      rw [List.map_append, List.foldl_append]
      show Kd.R _ _ _ _ _ _ (putP books steps l h _ ((xn : Int), (xg : Int), (xb : Int)))
      rw [HP.out]
      have hp := Kd.R_putn hRw.out (xn : Int) (h ln_ st)
      show Kd.R _ _ _ _ _ _ (List.set _ _ (h (rd l xn) (rd (rdl steps xg) xb)))
      rw [← HLNE.out, ← HSTE.out]
      exact hp
  case done =>
    rintro D ys W hD hys ⟨hR, hK, hB⟩ hKd
    have k8 := hK.cell (p := ⟨W6.heap.size, 0, none⟩) (by show W6.heap.size ≠ g; omega) o0
    have HR := Aside0.mk hR
    have HK := Aside0.mk hK
    have HB := Aside0.mk hB
    clear hR hK hB
    gi_wp2
    refine ⟨by simp, .inl ⟨_, _, rfl, run_takeDeferred hKd, ?_⟩⟩
    refine ⟨_, results_tmp rfl _ _ _, _, rfl, ?_, HB.out.trans (belowK_b (w := w) (Nat.le_refl _) W D _ _ (by omega) hKd rfl rfl)⟩
    have := own_row (f := fun (_ : Unit) => eachL rate seq max gs books steps l h) (B := W0.heap.size) () W _ (some D) (by rw [hys] at HR; exact HR.out) (grownBy_putObj' W D (.deferred none)) (fun r e => by cases e; exact ⟨hD, _, hKd, rfl⟩)
    exact this
  case stop =>
    rintro D c pre W _ _ h _
    exact h.elim
end Go.Proofs.Ytcfkkdjnalbnoaa
