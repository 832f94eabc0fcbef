/-
  quant.places: the places of lines, and the contract of its iterator.
-/
import Derived.RangeFuncNested
import Derived.RangeFuncBound
import Derived.RangeFuncBox
import Derived.RangeFuncCalls
import Derived.RangeFuncLeaves
import Derived.Shelf.Abstract
import Derived.Shelf.RegionOpen
import Derived.WalkKit
import Derived.OwnWalkIn
import Derived.TacticsInMore
import Derived.LoopNIn
import Derived.LoopIn
import Derived.Test.YtcfkkdjnalbnoaaHa
namespace Go.Proofs.Ytcfkkdjnalbnoaa
attribute [local go_sem] Oper.semAt_some
open Go.RowKit Go.Shelf Go.Proofs.YtcfkkdjnalbnoaaW.PrintWords Go.Proofs.YtcfkkdjnalbnoaaW.PrintLast Go.Proofs.YtcfkkdjnalbnoaaW.PrintMore PrintI

/-- Cells lie on, but for those of one block. -/
structure KpG (g : Nat) (W W' : World) : Prop where
  size : W.heap.size ≤ W'.heap.size
  same : ∀ (k : Nat) (o : Obj), k ≠ g → W.heap[k]? = some o → o.isCells = true → W'.heap[k]? = some o
theorem KpG.refl (g : Nat) (W : World) : KpG g W W := ⟨Nat.le_refl _, fun _ _ _ h _ => h⟩
theorem KpG.trans {g : Nat} {A B C : World} (h : KpG g A B) (k : KpG g B C) : KpG g A C := ⟨Nat.le_trans h.size k.size, fun i o hi ho hc => k.same i o hi (h.same i o hi ho hc) hc⟩
theorem KpG.below {g : Nat} {W W' : World} (h : Below W.heap.size W W') : KpG g W W' := ⟨h.size, fun k _ _ hk _ => (h.block k (Array.getElem?_eq_some_iff.1 hk).1).trans hk⟩
theorem KpG.grown {g : Nat} {W W' : World} {row : Option Nat} (hg : W.grownBy W' row) (hr : ∀ r, row = some r → r = g ∨ ∃ o : Obj, W.heap[r]? = some o ∧ o.isCells = false) : KpG g W W' :=
  ⟨hg.size, fun k o hk ho hc => by
    refine (hg.block k (Array.getElem?_eq_some_iff.1 ho).1 ?_).trans ho
    intro e
    rcases hr k e.symm with h | ⟨o', h1, h2⟩
    · exact hk h
    · rw [ho] at h1; cases h1; rw [hc] at h2; cases h2⟩
theorem KpG.cell {g : Nat} {W W' : World} (h : KpG g W W') {p : Addr} {v : Value} (hp : p.block ≠ g) (hc : W.cell? p = some v) : W'.cell? p = some v := by
  obtain ⟨o, ho, hcells⟩ := cells_of_cell hc
  exact (World.cell?_of_block ((h.same _ o hp ho hcells).trans ho.symm)).trans hc
theorem KpG.ints {g : Nat} {W W' : World} (h : KpG g W W') {A : Option Addr} {n : Nat} {xs : List Int} (hx : (Kd.int .i64).C W A n xs) (hA : ∀ ad, A = some ad → 0 < n → ad.block ≠ g) : (Kd.int .i64).C W' A n xs :=
  Kd.C_of_reads (d := (0 : Int)) (by
    obtain ⟨h1, h2, h3⟩ := Kd.reads_of_C (d := (0 : Int)) hx
    refine ⟨h1, h2, fun hn => ?_⟩
    obtain ⟨ad, e, hc⟩ := h3 hn
    exact ⟨ad, e, fun j hj => h.cell (by rw [add_block]; exact hA ad e hn) (hc j hj)⟩)
theorem kpg_b {g : Nat} {w : World} (W : World) (l : Nat) (o o' : Obj) (_ : w.heap.size ≤ l) (h : W.heap[l]? = some o) (hc : o.isCells = false) (_ : o.isWalk = false) : KpG g W (W.putObj l o') :=
  KpG.grown (grownBy_putObj' W l o') (fun r e => by cases e; exact .inr ⟨o, h, hc⟩)

/-! ### places -/
/-- The places of so many lines of a band. -/
def plN (v gr b o : Int) (j : Nat) : List (Int × Int × Int) := (List.range j).map fun i : Nat => (v * 32 + (o + (i : Int)), gr, b)
/-- How many lines a band has. -/
def wd (os : List Int) (b : Nat) : Nat := (rd os ((b : Int) + 1) - rd os b).toNat
def plB (os : List Int) (v gr : Int) (b : Nat) : List (Int × Int × Int) := (List.range b).flatMap fun b' : Nat => plN v gr b' (rd os b') (wd os b')
def plW (os gs : List Int) (mx : Nat) (v : Nat) : List (Int × Int × Int) := (List.range v).flatMap fun v' : Nat => plB os v' (grpOf gs v') mx
/-- The places of lines that are below max. -/
def plc (rate seq max : Int) (gs : List Int) : List (Int × Int × Int) := plW (offs rate (seq == 2)) gs max.toNat (wins seq)
theorem plN_succ (v gr b o : Int) (j : Nat) : plN v gr b o (j + 1) = plN v gr b o j ++ [(v * 32 + (o + (j : Int)), gr, b)] := by unfold plN; rw [List.range_succ, List.map_append]; rfl
theorem plN_zero (v gr b o : Int) : plN v gr b o 0 = [] := rfl
theorem plB_succ (os : List Int) (v gr : Int) (b : Nat) : plB os v gr (b + 1) = plB os v gr b ++ plN v gr b (rd os b) (wd os b) := by unfold plB; rw [List.range_succ, List.flatMap_append]; simp
theorem plB_zero (os : List Int) (v gr : Int) : plB os v gr 0 = [] := rfl
theorem plW_succ (os gs : List Int) (mx v : Nat) : plW os gs mx (v + 1) = plW os gs mx v ++ plB os v (grpOf gs v) mx := by unfold plW; rw [List.range_succ, List.flatMap_append]; simp
theorem plW_zero (os gs : List Int) (mx : Nat) : plW os gs mx 0 = [] := rfl
theorem plN_len (v gr b o : Int) (j : Nat) : (plN v gr b o j).length = j := by unfold plN; simp
theorem plB_mono (os : List Int) (v gr : Int) : ∀ {b c : Nat}, b ≤ c → (plB os v gr b).length ≤ (plB os v gr c).length := by
  intro b c h
  induction h with
  | refl => exact Nat.le_refl _
  | step _ ih => rw [plB_succ, List.length_append]; omega
theorem plW_mono (os gs : List Int) (mx : Nat) : ∀ {b c : Nat}, b ≤ c → (plW os gs mx b).length ≤ (plW os gs mx c).length := by
  intro b c h
  induction h with
  | refl => exact Nat.le_refl _
  | step _ ih => rw [plW_succ, List.length_append]; omega
/-- There is one more to come. -/
theorem pl_more {os gs : List Int} {mx vs v b j : Nat} (hv : v < vs) (hb : b < mx) (hj : j < wd os b) :
    (plW os gs mx v ++ (plB os v (grpOf gs v) b ++ plN v (grpOf gs v) b (rd os b) j)).length < (plW os gs mx vs).length := by
  have h1 := plW_mono os gs mx (show v + 1 ≤ vs from hv)
  have h2 := plB_mono os v (grpOf gs v) (show b + 1 ≤ mx from hb)
  rw [plW_succ, List.length_append] at h1
  rw [plB_succ, List.length_append, plN_len] at h2
  rw [List.length_append, List.length_append, plN_len]
  omega

/-- A place that may be. -/
def okP (G : Nat) (M : Int) (x : Int × Int × Int) : Prop := 0 ≤ x.1 ∧ x.1 < 256 ∧ 0 ≤ x.2.1 ∧ x.2.1 < G ∧ 0 ≤ x.2.2 ∧ x.2.2 < M

theorem offs_rise : ∀ r, r < 12 → ∀ short : Bool, ∀ b : Nat, b < 41 → b + 1 < (offs (r : Nat) short).length → 0 ≤ rd (offs (r : Nat) short) b ∧ rd (offs (r : Nat) short) b < rd (offs (r : Nat) short) ((b : Int) + 1) ∧ rd (offs (r : Nat) short) ((b : Int) + 1) ≤ (if short then 32 else 256) := by decide +kernel
theorem offs_up {rate : Int} (h0 : 0 ≤ rate) (h1 : rate ≤ 11) (short : Bool) (b : Nat) (hb : b + 1 < (offs rate short).length) :
    0 ≤ rd (offs rate short) b ∧ rd (offs rate short) b < rd (offs rate short) ((b : Int) + 1) ∧ rd (offs rate short) ((b : Int) + 1) ≤ (if short then 32 else 256) := by
  have hl := offs_len h0 h1 short
  have := offs_rise rate.toNat (by omega) short b (by omega)
  rw [Int.toNat_of_nonneg h0] at this
  exact this hb
/-- What the iterator reads: the windows' box, the groups, the offsets. -/
structure Src (g bi go : Nat) (seq shape max : Int) (A : Option Addr) (c : Nat) (gs os : List Int) (W : World) : Prop where
  c0 : W.cell? ⟨bi, 0, none⟩ = some (.int .u8 seq)
  c1 : W.cell? ⟨bi, 1, none⟩ = some (.int .u8 shape)
  c2 : W.cell? ⟨bi, 2, none⟩ = some (.int .i64 max)
  c3 : W.cell? ⟨bi, 3, none⟩ = some (.slice A gs.length c)
  gr : (Kd.int .i64).C W A gs.length gs
  os : ∀ b : Nat, b < os.length → W.cell? ⟨go, b, none⟩ = some (.int .i64 (rd os b))
  ne1 : bi ≠ g
  ne2 : go ≠ g
  ne3 : ∀ ad, A = some ad → 0 < gs.length → ad.block ≠ g
theorem Src.keep {g bi go : Nat} {seq shape max : Int} {A : Option Addr} {c : Nat} {gs os : List Int} {W W' : World} (h : Src g bi go seq shape max A c gs os W) (k : KpG g W W') : Src g bi go seq shape max A c gs os W' :=
  ⟨k.cell h.ne1 h.c0, k.cell h.ne1 h.c1, k.cell h.ne1 h.c2, k.cell h.ne1 h.c3, k.ints h.gr h.ne3, fun b hb => k.cell h.ne2 (h.os b hb), h.ne1, h.ne2, h.ne3⟩

theorem cellof {W W' : World} (h : Below W.heap.size W W') {p : Addr} {v : Value} (hc : W.cell? p = some v) : W'.cell? p = some v := (KpG.below (g := p.block + 1) h).cell (by omega) hc
theorem abides_below {β : Type} {B : Nat} {J : β → World → Prop} (hJ : AbidesFrom B J) {s : β} {W W' : World} (h : J s W) (hb : Below W.heap.size W W') : J s W' :=
  hJ s W W' none h (grown_of_below hb none) (fun r e => by cases e)

set_option maxRecDepth 100000 in
set_option maxHeartbeats 4000000 in
/-- The iterator of quant.places: it hands out the places, one by one. -/
theorem places1_in (n : Nat) (hn : 3 ≤ n) (g bi br : Nat) (rate seq shape max : Int) (A : Option Addr) (c : Nat) (gs : List Int) (hmay : MayBe rate seq shape max gs) (hs0 : 0 ≤ seq) (hs1 : seq ≤ 255) (hc1 : gs.length ≤ c)
    (l : Nat) (J Jx : List { x : Int × Int × Int // okP gs.length max x } → World → Prop)
    (W : World) (hJ : AbidesFrom W.heap.size J) (hgW : g < W.heap.size)
    (hY : ∀ pre x W1, J pre W1 → pre.length < (plc rate seq max gs).length → YieldAt Fence.wide (n - 1) Try.prog l #[.int .i64 x.1.1, .agg #[.int .i64 x.1.2.1, .int .i64 x.1.2.2]] W1 fun e W' =>
      (e = .returned (.bool true) ∧ J (pre ++ [x]) W' ∧ KpG g W1 W') ∨ (e = .returned (.bool false) ∧ Jx (pre ++ [x]) W'))
    (hbr : W.cell? ⟨br, 0, none⟩ = some (.int .i64 rate)) (hb0 : W.cell? ⟨bi, 0, none⟩ = some (.int .u8 seq)) (hb1 : W.cell? ⟨bi, 1, none⟩ = some (.int .u8 shape)) (hb2 : W.cell? ⟨bi, 2, none⟩ = some (.int .i64 max)) (hb3 : W.cell? ⟨bi, 3, none⟩ = some (.slice A gs.length c))
    (hgr : (Kd.int .i64).C W A gs.length gs) (ne1 : bi ≠ g) (ne3 : ∀ ad, A = some ad → 0 < gs.length → ad.block ≠ g) (h0 : J [] W) :
    CallsIn Fence.wide n Try.prog 60 #[.func (.yield l) #[] #[], .pointer (some ⟨bi, 0, none⟩), .pointer (some ⟨br, 0, none⟩)] W fun e W' => (∃ v, e = .returned v) ∧
      ((∃ ys, ys.map (·.1) = plc rate seq max gs ∧ J ys W') ∨ (∃ pre, True ∧ Jx pre W')) := by
  have hn1 : 1 ≤ n := by omega
  have HOF := Lib.hid (show band_Offsets.f rate (seq == 2) = some (offs rate (seq == 2), 0) by unfold band_Offsets.f; rw [if_neg (by have := hmay.r0; omega), if_neg (by have := hmay.r1; omega)])
  have hgl := may_len hmay
  have HWI := Lib.hid (windows_is seq shape max gs (by omega) (gs.length + 1) (by omega) (may_chk (may_eleven hmay)))
  have HGR := Lib.hid (fun (v : Int) (h0 : 0 ≤ v) (h1 : v < wins seq) => group_is hmay (gs.length + 3) (by omega) v h0 h1)
  have HGL := Lib.hid (fun (v : Int) (h1 : v < wins seq) => group_lt hmay v h1)
  have HUP := Lib.hid (fun (b : Nat) (hb : b + 1 < (offs rate (seq == 2)).length) => offs_up hmay.r0 hmay.r1 (seq == 2) b hb)
  have hol := offs_len hmay.r0 hmay.r1 (seq == 2)
  have hmx0 := hmay.m0
  have hmx1 : max + 1 ≤ (offs rate (seq == 2)).length := by have := hmay.m1; unfold bands at this; omega
  have HY := Lib.hid hY
  have HJ := Lib.hid hJ
  have HC := Lib.hid hgr
  have hu := Try.underlying24
  have HPL := Lib.hid (show plc rate seq max gs = plW (offs rate (seq == 2)) gs max.toNat (wins seq) from rfl)
  have HSH := Lib.hid (show (if (seq == 2) = true then (32 : Int) else 256) * (wins seq : Int) ≤ 256 ∧ (wins seq = 1 ∨ seq = 2) by
    unfold wins
    by_cases h : seq = 2
    · subst h; exact ⟨by decide, .inr rfl⟩
    · rw [if_neg h]; rw [if_neg (by simpa using h)]; exact ⟨by decide, .inl rfl⟩)
  obtain ⟨os, hos⟩ : ∃ os, os = offs rate (seq == 2) := ⟨_, rfl⟩
  rw [← hos] at HOF HUP HPL hol hmx1
  have J0 := Aside0.mk h0
  clear hos hY hJ hgr hmay h0
  refine callsIn_of_wp Try.func60 rfl trivial ?_ rfl
  simp only [Try.ntmps60, List.size_toArray, List.length_cons, List.length_nil, Nat.reduceAdd, Nat.reduceSub, Array.replicate_succ, Array.replicate_zero, List.push_toArray, List.append_toArray, List.nil_append, List.cons_append]
  gi_wp2_with (first
    | (refine ⟨trivial, ?_⟩; gi_at_call 27; refine (callsIn_wide.2 (band_Offsets.calls rate (seq == 2) os 0 _ HOF.out)).mono ?_; rintro e W1 ⟨v5, rfl, hR5, hB5⟩; obtain ⟨go, co, rfl, hgo, hgo2, _⟩ := Kd.R_form hR5 (by have := hol.1; omega); have HR5 := Aside0.mk hR5; have k0 := cellof hB5 hb0; have k1 := cellof hB5 hb1; have k2 := cellof hB5 hb2; have k3 := cellof hB5 hb3; clear hR5)
    | (refine ⟨trivial, ?_⟩; gi_at_call 13; refine (callsIn_wide.2 (info_Windows.calls (gs.length + 1) seq shape max A c gs (wins seq) 0 _ (Kd.C_below HC.out hB5) hc1 HWI.out)).mono ?_; rintro e W2 ⟨rfl, hB6⟩))
  have HSRC := Aside0.mk (show Src g bi go seq shape max A c gs os W2 from
    ⟨cellof hB6 k0, cellof hB6 k1, cellof hB6 k2, cellof hB6 k3, Kd.C_below (Kd.C_below HC.out hB5) hB6,
      fun b hb => cellof hB6 (by have := (Kd.R_celln 0 HR5.out (b : Int) (by omega) (by omega)).1; rw [Int.toNat_natCast] at this; exact this), ne1, by omega, ne3⟩)
  have J2 := Aside0.mk (abides_below HJ.out (abides_below HJ.out J0.out hB5) hB6)
  have HB2 := Aside0.mk (below_step hB5 hB6)
  clear k0 k1 k2 k3 hb0 hb1 hb2 hb3 hbr HR5 hB5 hB6 J0 ne1 ne3
  gi_loopw [29] (fun v29 wr => ∃ (v : Nat) (pre : List { x : Int × Int × Int // okP gs.length max x }), v ≤ wins seq ∧ v29 = .int .i64 v ∧ Aside0 (pre.map (·.1) = plW os gs max.toNat v) ∧ Aside0 (J pre wr) ∧ Aside0 (KpG g W2 wr) ∧ Aside0 (W.heap.size ≤ wr.heap.size)) (fun v29 _ => wins seq - (intOf v29).toNat)
  case atStart => exact ⟨0, [], Nat.zero_le _, rfl, ⟨rfl⟩, J2, ⟨KpG.refl _ _⟩, ⟨HB2.out.size⟩⟩
  case round =>
    obtain ⟨v, pre, hv, rfl, HP, HJP, HK, HSZ⟩ := hrel
    by_cases hlt : v < wins seq
    · have HS := Aside0.mk (HSRC.out.keep HK.out)
      have hw8 : wins seq ≤ 8 := by unfold wins; split <;> omega
      obtain ⟨s0, s1, s2, s3, s4, s5, s6, s7, s8⟩ := HS.out
      have HC3 := Aside0.mk s4
      clear s4 s5 s8
      obtain ⟨gr, hgr⟩ : ∃ gr : Nat, gr = grpOf gs v := ⟨_, rfl⟩
      have HGV := Lib.hid (show info_Group.f (gs.length + 3) seq shape max gs v = some ((gr : Int), 0) by rw [hgr]; exact HGR.out v (by omega) (by omega))
      have HGG := Lib.hid (show gr < gs.length by rw [hgr]; exact HGL.out v (by omega))
      have HGE := Lib.hid hgr
      clear hgr
      gi_wp2_with (refine ⟨trivial, ?_⟩; gi_at_call 15; refine (callsIn_wide.2 (info_Group.calls (gs.length + 3) seq shape max A c gs v gr 0 _ HC3.out hc1 HGV.out)).mono ?_; rintro e W3 ⟨rfl, hB7⟩; have k2 := cellof hB7 s2)
      have J3 := Aside0.mk (HJ.out pre wr W3 none HJP.out (grown_of_below hB7 none) (fun r e => by cases e))
      have K3 := Aside0.mk (HK.out.trans (KpG.below hB7))
      have Z3 := Aside0.mk (show W.heap.size ≤ W3.heap.size from Nat.le_trans HSZ.out hB7.size)
      clear s0 s1 s2 s3 s6 s7 k2 hB7 HS HC3 HJP HK HSZ
      gi_loopw [40] (fun v40 wr => ∃ (b : Nat) (pre2 : List { x : Int × Int × Int // okP gs.length max x }), (b : Int) ≤ max ∧ v40 = .int .i64 b ∧ Aside0 (pre2.map (·.1) = plW os gs max.toNat v ++ plB os v gr b) ∧ Aside0 (J pre2 wr) ∧ Aside0 (KpG g W2 wr) ∧ Aside0 (W.heap.size ≤ wr.heap.size)) (fun v40 _ => (max - intOf v40).toNat)
      case atStart => exact ⟨0, pre, by omega, rfl, ⟨by rw [HP.out, plB_zero, List.append_nil]⟩, J3, K3, Z3⟩
      case round =>
        clear J3 K3 Z3
        obtain ⟨b, pre2, hb, rfl, HP2, HJP2, HK2, HSZ2⟩ := hrel
        by_cases hbt : (b : Int) < max
        · have HS := Aside0.mk (HSRC.out.keep HK2.out)
          have k4 := HS.out.os b (by omega)
          obtain ⟨u1, u2, u3⟩ := HUP.out b (by omega)
          obtain ⟨o, ho⟩ : ∃ o, o = rd os b := ⟨_, rfl⟩
          obtain ⟨o', ho'⟩ : ∃ o', o' = rd os ((b : Int) + 1) := ⟨_, rfl⟩
          rw [← ho] at k4 u1 u2
          rw [← ho'] at u2 u3
          have u4 : o' ≤ 256 := by split at u3 <;> omega
          have HO := Lib.hid ho
          have HO' := Lib.hid ho'
          have HU3 := Lib.hid u3
          clear ho ho' u3
          gi_wp2
          gi_loopw [13] (fun v13 wr => ∃ (j : Nat) (pre3 : List { x : Int × Int × Int // okP gs.length max x }), o + j ≤ o' ∧ v13 = .int .i64 (o + j) ∧ Aside0 (pre3.map (·.1) = plW os gs max.toNat v ++ (plB os v gr b ++ plN v gr b o j)) ∧ Aside0 (J pre3 wr) ∧ Aside0 (KpG g W2 wr) ∧ Aside0 (W.heap.size ≤ wr.heap.size)) (fun v13 _ => (o' - intOf v13).toNat)
          case atStart => exact ⟨0, pre2, by omega, by simp, ⟨by rw [HP2.out, plN_zero, List.append_nil]⟩, HJP2, HK2, HSZ2⟩
          case round =>
            clear HJP2 HK2 HSZ2 HS k4
            obtain ⟨j, pre3, hj, rfl, HP3, HJP3, HK3, HSZ3⟩ := hrel
            have HS := Aside0.mk (HSRC.out.keep HK3.out)
            have k5 := HS.out.os (b + 1) (by omega)
            rw [show (((b + 1 : Nat) : Int)) = (b : Int) + 1 from by omega, ← HO'.out] at k5
            by_cases hjt : o + j < o'
            · have hx1 : 0 ≤ (v : Int) * 32 + (o + (j : Int)) := by omega
              have hx2 : (v : Int) * 32 + (o + (j : Int)) < 256 := by
                obtain ⟨_, h2⟩ := HSH.out
                have h3 := HU3.out
                rcases h2 with h2 | h2
                · omega
                · rw [if_pos (by rw [h2]; rfl)] at h3; omega
              have hok : okP gs.length max ((v : Int) * 32 + (o + (j : Int)), (gr : Int), (b : Int)) := ⟨hx1, hx2, Int.natCast_nonneg gr, Int.ofNat_lt.mpr HGG.out, Int.natCast_nonneg b, hbt⟩
              have hlen : pre3.length < (plc rate seq max gs).length := by
                have h1 : pre3.length = (pre3.map (·.1)).length := by rw [List.length_map]
                rw [h1, HP3.out, HPL.out, HO.out, HGE.out]
                exact pl_more hlt (by omega) (by unfold wd; rw [← HO.out, ← HO'.out]; omega)
              obtain ⟨fn, tmps, assign, body, hy, hR⟩ := HY.out pre3 ⟨((v : Int) * 32 + (o + (j : Int)), (gr : Int), (b : Int)), hok⟩ wr HJP3.out hlen
              dsimp only at hy
              have HP4 := Aside0.mk (show (pre3 ++ [(⟨((v : Int) * 32 + (o + (j : Int)), (gr : Int), (b : Int)), hok⟩ : { x : Int × Int × Int // okP gs.length max x })]).map (·.1) = plW os gs max.toNat v ++ (plB os v gr b ++ plN v gr b o (j + 1)) by
                rw [List.map_append, HP3.out, plN_succ, List.append_assoc, List.append_assoc]; rfl)
              gi_wp2
              refine hR.mono ?_
              rintro e W4 (⟨rfl, hJ4, hk4⟩ | ⟨rfl, hJx4⟩)
              · have HJ4 := Aside0.mk hJ4
                have HK4 := Aside0.mk (HK3.out.trans hk4)
                have HZ4 := Aside0.mk (Nat.le_trans HSZ3.out hk4.size)
                clear hJ4 hk4
                gi_wp2
                go_roundw
                case rel => exact ⟨j + 1, _, by omega, by (try simp); (try omega), HP4, HJ4, HK4, HZ4⟩
                case measure => simp [intOf]; omega
              · gi_wp2
                refine bodyPost_ret (results_none rfl _ _ _) rfl ?_
                exact ⟨⟨_, rfl⟩, .inr ⟨_, trivial, hJx4⟩⟩
            · have hjo : o + j = o' := by omega
              have hwd : j = wd os b := by unfold wd; rw [← HO.out, ← HO'.out]; omega
              have HP4 := Aside0.mk (show pre3.map (·.1) = plW os gs max.toNat v ++ plB os v gr (b + 1) by rw [HP3.out, plB_succ, hwd, HO.out])
              clear hwd hjo
              gi_wp2
              go_roundw
              case rel => exact ⟨b + 1, pre3, by omega, by go_num, HP4, HJP3, HK3, HSZ3⟩
              case measure => simp [intOf]; omega
        · have hbm : b = max.toNat := by omega
          have HP4 := Aside0.mk (show pre2.map (·.1) = plW os gs max.toNat (v + 1) by rw [HP2.out, plW_succ, hbm, HGE.out])
          clear hbm
          gi_wp2
          go_roundw
          case rel => exact ⟨v + 1, pre2, hlt, by go_num, HP4, HJP2, HK2, HSZ2⟩
          case measure => simp [intOf]; omega
    · have hvw : v = wins seq := by omega
      have HP4 := Aside0.mk (show pre.map (·.1) = plc rate seq max gs by rw [HP.out, HPL.out, hvw])
      clear hvw
      gi_wp2
      go_end0
      exact ⟨⟨_, rfl⟩, .inl ⟨pre, HP4.out, HJP.out⟩⟩
end Go.Proofs.Ytcfkkdjnalbnoaa
