-- Printed by a program of this session (mp.py, over the kit's print). Not trusted: Lean checks it.
import Derived.Test.YtddadihobjinhaaF0
import Derived.Test.YtddadihobjinhaaF5
import Derived.Test.YtddadihobjinhaaF9
namespace Go.Proofs.Ytddadihobjinhaa.P
open Go.RowKit Go.Proofs.YtddadihobjinhaaW.PrintWords Go.Proofs.YtddadihobjinhaaW.PrintLast Go.Proofs.YtddadihobjinhaaW.PrintMore
attribute [local go_sem] max2_int min2_int max_two min_two max_three min_three max_four min_four   -- for this text's walks alone
set_option linter.unusedVariables false
set_option linter.unusedSimpArgs false

/-! ### impl_Net_sides: function 51 -/
def impl_Net_sides.l0 : Nat → List Int → List Int → Int → Int → Int → List (S53) → Option (List Int)
 | 0, _, _, _, _, _, _ => none
 | k + 1, x3, x4, bG, az, aC, aD => if az < bG then (if 0 ≤ az then (if az < (x4.length : Int) then ((impl_Net_all.f k aC aD (rd x4 az) az).bind fun ah => (if 0 < (ah.length : Int) then (if az < (x3.length : Int) then (impl_Net_sides.l0 k (x3.set (az : Int).toNat (Int.tmod (wrap64 (((rd_L4 ah 0).length : Int) + 1)) 2)) x4 bG (wrap64 (az + 1)) aC aD) else (none)) else (none))) else (none)) else (none)) else (some x3)
def impl_Net_sides.f (k : Nat) (ab : Int) (ae : List (S53)) : Option (List Int) := if 0 ≤ ab then (if (ab : Int).toNat ≤ 35184372088832 then ((some (List.replicate (ab : Int).toNat 0 : List Int)).bind fun af => ((impl_Net_parts.f k ab ae).bind fun ag => (impl_Net_sides.l0 k af ag (af.length : Int) 0 ab ae))) else (none)) else (none)
theorem impl_Net_sides.mono_l : ∀ k, (∀ y0 y1 y2 y3 y4 y5, LeO (impl_Net_sides.l0 k y0 y1 y2 y3 y4 y5) (impl_Net_sides.l0 (k + 1) y0 y1 y2 y3 y4 y5))
 | 0 => fun _ _ _ _ _ _ r h => by simp [impl_Net_sides.l0] at h
 | k + 1 => by
  have aL := impl_Net_sides.mono_l k
  ·intro y0 y1 y2 y3 y4 y5; unfold impl_Net_sides.l0
   repeat' first
   | (with_reducible exact aL _ _ _ _ _ _)
   | (with_reducible exact impl_Net_all.mono _ _ _ _ _)
   | (with_reducible exact impl_Net_parts.mono _ _ _)
   | (with_reducible exact LeO.refl _)
   | (with_reducible exact LeO.none _)
   | (with_reducible refine LeO.ite ?_ ?_)
   | (with_reducible refine LeO.bind ?_ (fun _ => ?_))
   | exact aL _ _ _ _ _ _
   | exact impl_Net_all.mono _ _ _ _ _
   | exact impl_Net_parts.mono _ _ _
   | exact LeO.none _
   | refine LeO.ite ?_ ?_
   | refine LeO.bind ?_ (fun _ => ?_)
theorem impl_Net_sides.mono : ∀ a0 a1 k, LeO (impl_Net_sides.f k a0 a1) (impl_Net_sides.f (k + 1) a0 a1) := by
 intro a0 a1 k; have aL := impl_Net_sides.mono_l k; unfold impl_Net_sides.f
 repeat' first | (with_reducible first | exact aL _ _ _ _ _ _ | exact impl_Net_all.mono _ _ _ _ _ | exact impl_Net_parts.mono _ _ _ | exact LeO.refl _ | exact LeO.none _ | refine LeO.ite ?_ ?_ | refine LeO.bind ?_ (fun _ => ?_)) | exact aL _ _ _ _ _ _ | exact impl_Net_all.mono _ _ _ _ _ | exact impl_Net_parts.mono _ _ _ | exact LeO.none _ | refine LeO.ite ?_ ?_ | refine LeO.bind ?_ (fun _ => ?_)
def impl_Net_sides.T6 : Bool × List (List Nat × List Nat) := (true, [([], []), ([], []), ([], []), ([], []), ([], []), ([3, 4], [3, 4]), ([5], [5]), ([], []), ([2, 6, 7], [2, 6, 7]), ([8], [8]), ([9], [9]), ([10], [10]), ([11], [11]), ([12], [12]), ([0, 1, 0, 1, 2, 3, 4, 5, 6, 7, 8, 9, 10, 11, 12, 13], [0, 1]), ([14, 13, 8, 0, 1, 2, 3, 4, 5, 6, 7, 8, 9, 10, 11, 12, 13], [13, 14])])
def impl_Net_sides.B6 : List Nat := [0, 0, 0, 0, 0, 24, 56, 0, 252, 508, 1020, 2044, 4092, 8188, 16383, 32767]
theorem impl_Net_sides.tab6 : rtab .any (opsOf Try.f51 6) = impl_Net_sides.T6 := by kernel_rfl
theorem impl_Net_sides.bits6 : waitsOk impl_Net_sides.T6.2 impl_Net_sides.B6 = true := by kernel_rfl
set_option maxHeartbeats 8000000 in
set_option maxRecDepth 100000 in
theorem impl_Net_sides.calls (k : Nat) (ab : Int) (ap : Option Addr) (aq : Nat) (ae : List (S53)) (r : List Int) (w : World) (aT : Kd.C k53 w ap ae.length ae) (aU : ae.length ≤ aq) (h : impl_Net_sides.f k ab ae = some r) :
  Calls Try.prog 51 #[.agg #[.int .i64 ab, .slice ap ae.length aq]] w fun e w' => ∃ bH : Value, e = .returned (bH) ∧ Kd.R (Kd.int .i64) 3 w' w.heap.size (fun _ => True) bH r ∧ Below w.heap.size w w' := by
 have cf := Try.underlying30; have aV := G.m aT; have aW := G.m aU; clear aT aU; have HB := G.m (Below.refl w.heap.size w); have H : (if 0 ≤ ab then (if (ab : Int).toNat ≤ 35184372088832 then ((some (List.replicate (ab : Int).toNat 0 : List Int)).bind fun af => ((impl_Net_parts.f k ab ae).bind fun ag => (impl_Net_sides.l0 k af ag (af.length : Int) 0 ab ae))) else (none)) else (none)) = some r := h; clear h
 by_cases c2 : 0 ≤ ab
 ·rw [if_pos c2] at H; have bJ := eq_true c2; have bK : decide (0 ≤ ab) = true := decide_eq_true c2; clear c2
  by_cases c3 : (ab : Int).toNat ≤ 35184372088832
  ·rw [if_pos c3] at H; have bL := eq_true c3; have bM : decide ((ab : Int).toNat ≤ 35184372088832) = true := decide_eq_true c3; clear c3; obtain ⟨af, au⟩ : ∃ y_ : List Int, y_ = (List.replicate (ab : Int).toNat 0) := ⟨_, rfl⟩; replace H : ((impl_Net_parts.f k ab ae).bind fun ag => (impl_Net_sides.l0 k af ag (af.length : Int) 0 ab ae)) = some r := by first | (rw [au]; with_reducible exact H) | (have aB := (Option.bind_some _ _).symm.trans H; rw [au]; with_reducible exact aB) | (have aB := (Option.bind_some _ _).symm.trans H; with_reducible exact aB) | with_reducible exact H | (rw [au]; exact H) | exact H
   have aX := G.m au; clear au; obtain ⟨ag, A4, H⟩ := G.bi H; replace H : (impl_Net_sides.l0 k af ag (af.length : Int) 0 ab ae) = some r := H; have H' := G.m H; clear H
   go_enter Try.func51, Try.ntmps51
   go_wp2_with (first | ((with_reducible refine G.h 1 rfl ?_); refine G.be 1 #[.int .i64 ab, .slice ap ae.length aq] 30 ?_; intro av hg w5 hbox hb; have n0 := G.bs HB hb; have n1 := G.m (hbox); have n2 := G.m ((by rw [hg]; exact (below_size (G.cB HB.out)) : w.heap.size ≤ av)); have n3 := G.m ((by rw [hg]; exact (below_size (G.cB HB.out)) : w.heap.size ≤ av)); clear HB; revert n0 n1 n2 n3; intro HB ac b4 bC; clear hb hbox hg; have ⟨a5, a6, a7, a8⟩ := G.d2 (w := w5) ac) | ((with_reducible refine G.h 8 rfl ?_); refine Kd.R_make (Kd.int .i64) _ 3 rfl (N := 8) rfl 25 _ _ rfl ab rfl rfl Try.underlying25 (.int .i64 0) 8 info3 rfl (by decide) (by omega) 0 (ok := fun _ => True) (okp := fun _ => True) rfl (fun _ hk => hk) trivial (of_decide_eq_true (G.asm)) (Nat.le_trans (Nat.mul_le_mul_right _ (of_decide_eq_true (G.asm) : ab.toNat ≤ 35184372088832)) (by omega)) (Below.refl _ _) (Nat.le_refl _) ?_; intro cg w7 aM hb hg_ hnew_; clear hg_ hnew_; (first | rw [← aX.out] at aM | (simp only [Int.reduceToNat] at aM; rw [← aX.out] at aM)); have n0 := G.m (Kd.R_lower aM (below_size (G.cB HB.out))); have n1 := G.bb ac hb; have n2 := G.bs HB hb; clear ac HB; revert n0 n1 n2; intro ao ac HB; clear hb aM; have ⟨a9, a_, ba, bc⟩ := G.d2 (w := w7) ac) | ((with_reducible refine G.f 64 rfl ?_); refine G.gL 10 Try.func64 #[.agg #[.int .i64 ab, .slice ap ae.length aq]] ?_; (with_reducible refine (impl_Net_parts.calls k ab _ _ ae ag _ ?side1 ?side2 A4.out).mono ?_); (case side1 => exact G.cC (Kd.C_below aV.out HB.out)); (case side2 => exact aW.out); rintro e cp ⟨bd, rfl, aE, hb⟩; refine ⟨_, rfl, ?_⟩; have n0 := G.re ao aE hb; have n1 := G.m (Kd.R_lower (Kd.R_new' aE (Kd.R_lt (G.cR ao.out))) (below_size (G.cB HB.out))); have n2 := G.bb ac hb; have n3 := G.bs HB hb; clear ao ac HB; revert n0 n1 n2 n3; intro ao bD ac HB; (try clear hb aE); obtain ⟨bf, bh, bN⟩ := Kd.R_slice ao.out; subst bN))
   go_loopg [13] k (fun kq bY w' => ∃ (al : List Int) (aa : Int), bY = .int .i64 aa ∧ Aside0 (impl_Net_sides.l0 kq al ag (af.length : Int) aa ab ae = some r) ∧ Aside0 (kq ≤ k) ∧ Aside0 (Kd.R (Kd.int .i64) 3 w' w.heap.size (fun k_ => some k_ ≠ (bd : Value).ownBlock) (.slice bf af.length bh) al) ∧ Aside0 (Kd.R (Kd.int .i64) 3 w' w.heap.size (fun k_ => some k_ ≠ ((.slice bf af.length bh) : Value).ownBlock) bd ag) ∧ Aside0 (w'.heap[av]? = some (.cells #[.int .i64 ab, (.slice ap ae.length aq)] 30 (0, 0))) ∧ Aside0 (Below w.heap.size w w'))
   case atStart => exact ⟨(af), (0), (by first | rfl | (simp; done) | (simp [*]; done)), H', ⟨Nat.le_refl _⟩, ⟨by (with_reducible repeat (first | apply Kd.R_alloc | apply Kd.R_drewN | apply Kd.R_drew)); exact Kd.R_mono ao.out (fun _ hk => hk.2)⟩, ⟨by (with_reducible repeat (first | apply Kd.R_alloc | apply Kd.R_drewN | apply Kd.R_drew)); exact Kd.R_mono bD.out (fun _ hk => hk.2)⟩, ⟨G.cb ac.out⟩, ⟨G.cB HB.out⟩⟩
   case round =>
    clear H'; (try clear bJ bK bL bM a5 a6 a9 a_ a7 a8 ba bc); obtain ⟨al, aa, rfl, HA, bI, ai, aj, ac, HB⟩ := hrel; have ak := (Kd.R_reads' ai.out).1; rw [ak] at ai; (try simp only [ak]); (try simp only [ak] at ac); (try simp only [ak] at aj); cases gk with
    | zero => exact absurd HA.out (by simp [impl_Net_sides.l0])
    | succ k1 =>
     have H := HA.out; clear HA; simp only [impl_Net_sides.l0] at H
     by_cases aF : aa < (af.length : Int)
     ·rw [if_pos aF] at H; have aY : decide (aa < (af.length : Int)) = true := decide_eq_true aF; clear aF
      by_cases aZ : 0 ≤ aa
      ·rw [if_pos aZ] at H; have b5 : decide (0 ≤ aa) = true := decide_eq_true aZ; clear aZ
       by_cases a2 : aa < (ag.length : Int)
       ·rw [if_pos a2] at H; have b6 : decide (aa < (ag.length : Int)) = true := decide_eq_true a2; clear a2; obtain ⟨ah, bZ, H⟩ := G.bi H; replace H : (if 0 < (ah.length : Int) then (if aa < (al.length : Int) then (impl_Net_sides.l0 k1 (al.set (aa : Int).toNat (Int.tmod (wrap64 (((rd_L4 ah 0).length : Int) + 1)) 2)) ag (af.length : Int) (wrap64 (aa + 1)) ab ae) else (none)) else (none)) = some r := H
        by_cases a3 : 0 < (ah.length : Int)
        ·rw [if_pos a3] at H; have b7 : decide (0 < (ah.length : Int)) = true := decide_eq_true a3; have b8 : decide (0 < ah.length) = true := decide_eq_true (by omega); clear a3
         by_cases a4 : aa < (al.length : Int)
         ·rw [if_pos a4] at H; have b9 : decide (aa < (al.length : Int)) = true := decide_eq_true a4; clear a4; obtain ⟨bj, aw⟩ : ∃ y_ : List Int, y_ = (al.set (aa : Int).toNat (Int.tmod (wrap64 (((rd_L4 ah 0).length : Int) + 1)) 2)) := ⟨_, rfl⟩; replace H : (impl_Net_sides.l0 k1 bj ag (af.length : Int) (wrap64 (aa + 1)) ab ae) = some r := by first | (rw [aw]; with_reducible exact H) | (have aB := (Option.bind_some _ _).symm.trans H; rw [aw]; with_reducible exact aB) | (have aB := (Option.bind_some _ _).symm.trans H; with_reducible exact aB) | with_reducible exact H | (rw [aw]; exact H) | exact H
          have bE := G.m aw; clear aw; have H' := G.m H; clear H; try go_wp2
          have n0 := G.m (Kd.R_drew ai.out); have n1 := G.m (Kd.R_drew aj.out); have n2 := G.m (blk_drew ac.out); have n3 := G.m (below_drew1 HB.out); clear ai aj ac HB; revert n0 n1 n2 n3; intro ai aj ac HB; obtain ⟨ch, ci, bk⟩ := Kd.R_slice aj.out; (first | subst bk | (injection bk with aN bl aO; have bm := aN.symm; have bn := aO.symm; clear aN bl aO; subst bm; subst bn)); have aQ : 0 ≤ (aa : Int) := of_decide_eq_true (G.asm); have aR : aa < (ag.length : Int) := of_decide_eq_true (G.asm); obtain ⟨bF, bO, aG⟩ := Kd.at_int (Kd.R_reads' aj.out).2.2 aa aQ aR; cases bO; replace aQ := eq_true aQ; replace aR := eq_true aR; refine G.st 16 (S := fun w' => w'.cell? ⟨av, 0, none⟩ = some (.int .i64 ab) ∧ w'.cell? ⟨av, 1, none⟩ = some (.slice ap ae.length aq) ∧ w'.cell? (bF.add (aa).toNat) = some (.int .i64 (rd ag aa))) [15] ⟨G.z ac 0, G.z ac 1, aG⟩ impl_Net_sides.tab6 impl_Net_sides.bits6 (fun hHeld HT_ HW_ => ?_); generalize wr.drew = cq at ai aj ac HB aG hHeld ⊢; refine G.pu 0 16 1 ?_; refine G.pu 1 17 3 ?_; refine G.pu 3 19 11 ?_; refine G.pu 4 20 27 ?_; refine G.pu 5 21 59 ?_; refine G.pu 7 23 187 ?_; refine G.ta3 2 18 191 ?_; refine G.ta3 6 22 255 ?_; refine G.on 8 24 511 (fun K hK => ?_); refine G.gs Try.func52 #[.agg #[.int .i64 ab, .slice ap ae.length aq], .int .i64 (rd ag aa), .int .i64 aa] ?_; with_reducible refine (impl_Net_all.calls k1 ab _ _ ae (rd ag aa) aa ah _ ?side1 ?side2 bZ.out).mono ?_
          (case side1 => exact G.cC (Kd.C_below aV.out HB.out)); (case side2 => exact aW.out); rintro e b1 ⟨cj, rfl, aE, hb⟩; have bP := (hb.cell (World.block_lt_of_cell? _ _ (hHeld.2.2))).trans (hHeld.2.2); refine ⟨_, rfl, ?_⟩; have n0 := G.rb ai hb; have n1 := G.rb aj hb; have n2 := G.m (Kd.S_lower (Kd.S_new' (Kd.S_new' aE (Kd.R_lt (G.cR ai.out))) (Kd.R_lt (G.cR aj.out))) (below_size (G.cB HB.out))); have n3 := G.bb ac hb; have n4 := G.bs HB hb; clear ai aj ac HB; revert n0 n1 n2 n3 n4; intro ai aj aA ac HB; (try clear hb cr hk hi aE); obtain ⟨ck, cl, bo⟩ := Kd.S_slice aA.out; (first | subst bo | (injection bo with aN bl aO; have bm := aN.symm; have bn := aO.symm; clear aN bl aO; subst bm; subst bn)); have aJ : 0 ≤ (0 : Int) := (by omega); have aK : 0 < (ah.length : Int) := of_decide_eq_true (G.asm); obtain ⟨b_, bp, bq, bQ, ax, aH, aI⟩ := at_L4 (Kd.S_reads' aA.out).2.2 0 aJ aK; cases bQ; obtain ⟨ca, br, bu, aP⟩ := Kd.S_get aA.out [] 0 aJ (by first | exact aK | exact of_decide_eq_true (G.asm) | (have e_ := (Kd.S_reads' aA.out).1; omega)); obtain ⟨bU, rfl, ay⟩ := bu; have am := aP 0 _ rfl; rw [Nat.add_zero, show ((Kd.slice 3 (Kd.int .i64))).sz = 1 from rfl, Nat.mul_one] at am; replace am := Option.some.inj (am.symm.trans ax); rw [am] at ay; have bV := G.m (show Kd.R (Kd.int .i64) 3 _ _ _ _ (rd_L4 ah 0) from ay); clear am ay; clear aP br; have cd : (0 < ah.length) = True := eq_true (by omega); (try rw [show ((0 : Int)).toNat = 0 from rfl] at ax); (try rw [Addr.add_zero'] at ax); have bW := G.m aI; have bX := G.m aH; clear aI aH; replace aJ := eq_true aJ; replace aK := eq_true aK; have bv : 0 ≤ (aa : Int) := of_decide_eq_true (G.asm); have bw : (aa : Int) < ((al.length : Int) : Int) := of_decide_eq_true (G.asm); obtain ⟨bx, cm, bz, bA, bR, cn, bB⟩ := Kd.R_form ai.out (by omega); (first | cases bz | (injection bz with ea_ en_ ec_; (first | subst ea_ | (injection ea_ with ea_; subst ea_)); subst ec_; clear en_)); have bS := G.m bA; have co := G.m bB; clear bA bR bB; obtain ⟨b2, b3⟩ := Kd.R_celln 0 ai.out (aa : Int) bv bw; replace bv := eq_true bv; replace bw := eq_true bw; have aS := Kd.R_putn ai.out (aa : Int) (Int.tmod (wrap64 (((rd_L4 ah 0).length : Int) + 1)) 2); rw [← bE.out] at aS; have bT := G.m aS; clear aS; refine hK.out _ _ ⟨G.z ac 0, G.z ac 1, bP⟩ (fun hHeld => ?_); clear hK K; refine G.no 24 ?_; refine G.pu 9 25 1023 ?_; refine G.on 10 26 2047 (fun K hK => ?_); refine value_ (v := .slice bp (rd_L4 ah 0).length bq) (w1 := b1) (by rfl) rfl (by first | (go_simp; done) | (go_simp; rfl)) ?_; refine hK.out _ _ hHeld (fun hHeld => ?_); clear hK K; refine G.no 26 ?_; refine G.pu 11 27 4095 ?_; refine G.pu 12 28 8191 ?_; refine G.pu 13 29 16383 ?_; refine G.pu 14 30 32767 ?_; refine G.la 15 (none) (G.fl 16 65535) (fun K hK => ?_); refine skip_ (w1 := ?_) (by rfl) rfl ?_ ?_; rotate_left
          ·go_simp
           rfl
          refine hK.out _ _ ?_; clear hK K; refine done_ (done_of HT_.out (by kernel_rfl)) ?_; try go_wp2
          (try simp only [← ak])
          go_roundg k1
          case measure => have := bI.out; omega
          case rel => exact ⟨(bj), (wrap64 (aa + 1)), (by first | rfl | (simp; done) | (simp [*]; done)), H', ⟨by have := bI.out; omega⟩, ⟨by (try simp only [ak]); (with_reducible repeat (first | apply Kd.R_alloc | apply Kd.R_drewN | apply Kd.R_drew)); exact bT.out⟩, ⟨by (try simp only [ak]); (with_reducible repeat (first | apply Kd.R_alloc | apply Kd.R_drewN | apply Kd.R_drew)); exact Kd.R_mono (Kd.R_far (p := ⟨bx, (aa : Int).toNat, none⟩) (Kd.R_mono aj.out (fun k_ hk => (⟨hk, fun e_ => hk (by rw [e_]; rfl)⟩ : _ ∧ k_ ≠ bx))) (fun _ hk => hk.2) (.int .i64 (Int.tmod (wrap64 (((rd_L4 ah 0).length : Int) + 1)) 2))) (fun _ hk => hk.1)⟩, ⟨by (try simp only [ak]); (with_reducible repeat (first | refine blk_drewN ?_ _ | refine blk_drew ?_ | refine blk_alloc ?_ _)); refine blk_far ?_ (by have h_ := Kd.R_ne ai.out ac.out (by decide); intro e_; exact h_ (by rw [e_]; rfl)) _; (with_reducible repeat (first | refine blk_drewN ?_ _ | refine blk_drew ?_ | refine blk_alloc ?_ _)); exact ac.out⟩, ⟨by repeat (first | (with_reducible first | exact HB.out | apply below_alloc | apply pw_below_drewN | apply below_drew1 | refine below_set ?_ bS.out | refine below_set ?_ bC.out) | exact HB.out)⟩⟩
         ·rw [if_neg a4] at H; exact absurd H (by simp)
        ·rw [if_neg a3] at H; exact absurd H (by simp)
       ·rw [if_neg a2] at H; exact absurd H (by simp)
      ·rw [if_neg aZ] at H; exact absurd H (by simp)
     ·rw [if_neg aF] at H; have aY : decide (aa < (af.length : Int)) = false := decide_eq_false aF; have ce : decide (aa < (al.length : Int)) = false := by have h_ := aY; rw [ak] at h_; exact h_
      clear aF; obtain rfl := Option.some.inj H
      go_wp2
      go_ret
      exact ⟨_, by first | rfl | (simp [errW_none, errW_some] <;> rfl) | (simp [*, errW_none, errW_some] <;> rfl), by (with_reducible repeat (first | apply Kd.R_alloc | apply Kd.R_drewN | apply Kd.R_drew)); exact Kd.R_mono ai.out (fun _ hk => trivial), G.cB HB.out⟩
  ·rw [if_neg c3] at H; exact absurd H (by simp)
 ·rw [if_neg c2] at H; exact absurd H (by simp)

end Go.Proofs.Ytddadihobjinhaa.P
