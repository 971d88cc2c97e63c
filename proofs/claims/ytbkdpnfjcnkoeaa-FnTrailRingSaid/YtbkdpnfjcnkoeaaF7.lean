-- Printed by a program of this session (mp.py, over the kit's print). Not trusted: Lean checks it.
import Derived.Test.YtbkdpnfjcnkoeaaF0
import Derived.Test.YtbkdpnfjcnkoeaaF1
namespace Go.Proofs.Ytbkdpnfjcnkoeaa.P
open Go.RowKit Go.Proofs.YtbkdpnfjcnkoeaaW.PrintWords Go.Proofs.YtbkdpnfjcnkoeaaW.PrintLast Go.Proofs.YtbkdpnfjcnkoeaaW.PrintMore
attribute [local go_sem] max2_int min2_int max_two min_two max_three min_three max_four min_four   -- for this text's walks alone
set_option linter.unusedVariables false
set_option linter.unusedSimpArgs false

theorem caaG {p : Prop} (h : p := by (with_reducible repeat (first | refine blk_drewN ?_ _ | refine blk_drew ?_ | refine blk_alloc ?_ _)); refine blk_put (cs := #[.int .i64 ((rd_T63 aa ab).f0), .int .i64 0]) ?_ 1 _ rfl; (with_reducible repeat (first | refine blk_drewN ?_ _ | refine blk_drew ?_ | refine blk_alloc ?_ _)); refine blk_put (cs := #[.int .i64 0, .int .i64 0]) ?_ 0 _ rfl; (with_reducible repeat (first | refine blk_drewN ?_ _ | refine blk_drew ?_ | refine blk_alloc ?_ _)); exact aw.out) : p := h
theorem caaH {p : Prop} (h : p := by (with_reducible repeat (first | refine blk_drewN ?_ _ | refine blk_drew ?_ | refine blk_alloc ?_ _)); refine blk_far ?_ aA.out _; (with_reducible repeat (first | refine blk_drewN ?_ _ | refine blk_drew ?_ | refine blk_alloc ?_ _)); refine blk_far ?_ aA.out _; (with_reducible repeat (first | refine blk_drewN ?_ _ | refine blk_drew ?_ | refine blk_alloc ?_ _)); exact ae.out) : p := h
theorem caaI {p : Prop} (h : p := by (with_reducible repeat (first | refine blk_drewN ?_ _ | refine blk_drew ?_ | refine blk_alloc ?_ _)); refine blk_far ?_ aC.out _; (with_reducible repeat (first | refine blk_drewN ?_ _ | refine blk_drew ?_ | refine blk_alloc ?_ _)); refine blk_far ?_ aC.out _; (with_reducible repeat (first | refine blk_drewN ?_ _ | refine blk_drew ?_ | refine blk_alloc ?_ _)); exact ag.out) : p := h
theorem caaJ {p : Prop} (h : p := by (with_reducible repeat (first | refine blk_drewN ?_ _ | refine blk_drew ?_ | refine blk_alloc ?_ _)); refine blk_far ?_ aD.out _; (with_reducible repeat (first | refine blk_drewN ?_ _ | refine blk_drew ?_ | refine blk_alloc ?_ _)); refine blk_far ?_ aD.out _; (with_reducible repeat (first | refine blk_drewN ?_ _ | refine blk_drew ?_ | refine blk_alloc ?_ _)); exact ah.out) : p := h
theorem caaK {p : Prop} (h : p := by (with_reducible repeat (first | apply Kd.R_alloc | apply Kd.R_drewN | apply Kd.R_drew)); exact (Kd.R_mono (Kd.R_far (p := ⟨ak, 1, none⟩) (Kd.R_far (p := ⟨ak, 0, none⟩) (Kd.R_mono ac.out (fun k_ hk => (⟨hk, hk.2⟩ : _ ∧ k_ ≠ ak))) (fun _ hk => hk.2) (.int .i64 ((rd_T63 aa ab).f0))) (fun _ hk => hk.2) (.int .i64 ((rd_T63 aa ab).f1))) (fun _ h_ => h_.1))) : p := h
theorem caaL {p : Prop} (h : p := by rw [hg]; exact Nat.ne_of_lt (blk_lt (g := au) (o := .cells #[.int .i64 af, .slice (some a6) aa.length ax] 29 (0, 0)) (G.cb ae.out))) : p := h
theorem caaM {p : Prop} (h : p := by rw [hg]; exact Nat.ne_of_gt (blk_lt (g := au) (o := .cells #[.int .i64 af, .slice (some a6) aa.length ax] 29 (0, 0)) (G.cb ae.out))) : p := h
theorem caaN {p : Prop} (h : p := by rw [hg]; exact Nat.ne_of_lt (blk_lt (g := au) (o := .cells #[.int .i64 af, .slice aE aa.length ax] 29 (0, 0)) (G.cb ae.out))) : p := h
theorem caaO {p : Prop} (h : p := by rw [hg]; exact Nat.ne_of_gt (blk_lt (g := au) (o := .cells #[.int .i64 af, .slice aE aa.length ax] 29 (0, 0)) (G.cb ae.out))) : p := h
theorem caaF {p : Prop} (h : p := by rw [hg]; exact Nat.ne_of_lt (blk_lt (g := ap) (o := .cells #[.int .i64 0, .slice none 0 0] 29 (0, 0)) (G.cb ag.out))) : p := h
theorem caaE {p : Prop} (h : p := by rw [hg]; exact Nat.ne_of_gt (blk_lt (g := ap) (o := .cells #[.int .i64 0, .slice none 0 0] 29 (0, 0)) (G.cb ag.out))) : p := h
theorem caaD {p : Prop} (h : p := by first | rfl | (simp [errW_none, errW_some] <;> rfl) | (simp [*, errW_none, errW_some] <;> rfl)) : p := h
theorem caaC {p : Prop} (h : p := by first | rfl | (simp; done) | (simp [*]; done)) : p := h
theorem caaB {p : Prop} (h : p := by rw [hg]; exact (below_size (G.cB HB.out))) : p := h
attribute [local go_sem high] eqA63
/-! ### impl_tie: function 51 -/
def impl_tie.f (a0 : Int) (a1 : Int) : Option (Int × Int) := some (mn a0 a1, mx a0 a1)
set_option maxHeartbeats 8000000 in
set_option maxRecDepth 100000 in
theorem impl_tie.calls (a0 : Int) (a1 : Int) (r1 : Int) (r2 : Int) (w : World) (h : impl_tie.f a0 a1 = some (r1, r2)) :
  Calls Try.prog 51 #[.int .i64 a0, .int .i64 a1] w fun e w' => e = .returned (.agg #[.int .i64 r1, .int .i64 r2]) ∧ Below w.heap.size w w' := by
 have bO := Try.underlying63; have HB := G.m (Below.refl w.heap.size w); have H : (some (mn a0 a1, mx a0 a1)) = some (r1, r2) := h; clear h; obtain ⟨bF, bw⟩ : ∃ j_ : Int, (mn a0 a1) = j_ := ⟨_, rfl⟩; replace H : (some (bF, mx a0 a1)) = some (r1, r2) := by first | (rw [bw] at H; exact H) | (simp only [bw] at H ⊢; exact H)
 have dK : (if a1 < a0 then a1 else a0) = bF := bw; obtain ⟨cd, bx⟩ : ∃ j_ : Int, (mx a0 a1) = j_ := ⟨_, rfl⟩; replace H : (some (bF, cd)) = some (r1, r2) := by first | (rw [bx] at H; exact H) | (simp only [bx] at H ⊢; exact H)
 have dL : (if a0 < a1 then a1 else a0) = cd := bx; simp only [Option.some.injEq, Prod.mk.injEq] at H; obtain ⟨rfl, rfl⟩ := H
 go_enter Try.func51, Try.ntmps51
 go_wp2_with (first | ((with_reducible refine G.h 4 rfl ?_); refine G.be 4 #[.int .i64 0, .int .i64 0] 63 ?_; intro bz hg w5 hbox hb; have n0 := G.bs HB hb; have n1 := G.m (hbox); have n2 := G.m (caaB : w.heap.size ≤ bz); have n3 := G.m (caaB : w.heap.size ≤ bz); clear HB; revert n0 n1 n2 n3; intro HB bR dM dN; clear hb hbox hg; have ⟨bG, bH, bI, bJ⟩ := G.d2 (w := w5) bR))
 refine bodyPost_ret (results_cell_row rfl _ _ bz 63 #[.int .i64 bF, .int .i64 cd] (0, 0) _ rfl (by (with_reducible repeat (first | refine blk_drewN ?_ _ | refine blk_drew ?_ | refine blk_alloc ?_ _)); refine blk_put (cs := #[.int .i64 bF, .int .i64 0]) ?_ 1 _ rfl; (with_reducible repeat (first | refine blk_drewN ?_ _ | refine blk_drew ?_ | refine blk_alloc ?_ _)); refine blk_put (cs := #[.int .i64 0, .int .i64 0]) ?_ 0 _ rfl; (with_reducible repeat (first | refine blk_drewN ?_ _ | refine blk_drew ?_ | refine blk_alloc ?_ _)); exact bR.out) Try.underlying63 rfl (by kernel_rfl)) rfl ?_; exact ⟨by first | rfl | (simp [errW_none, errW_some] <;> rfl) | (simp only [← bw, ← bx]; first | rfl | (simp [errW_none, errW_some] <;> rfl)) | (simp [*, errW_none, errW_some] <;> rfl), G.cB HB.out⟩

/-! ### slices_Index_impl_Tie_impl_Tie: function 76 -/
def slices_Index_impl_Tie_impl_Tie.l0 : Nat → List (S63) → Int → Int → Int → Int → Option (Int)
 | 0, _, _, _, _, _ => none
 | k + 1, x0, x7, x8, br, bu => if x8 < x7 then (if 0 ≤ x8 then (if x8 < (x0.length : Int) then (if (br == ((rd_T63 x0 x8).f0) && (bu == ((rd_T63 x0 x8).f1))) = true then (some x8) else (slices_Index_impl_Tie_impl_Tie.l0 k x0 x7 (wrap64 (x8 + 1)) br bu)) else (none)) else (none)) else (some (-1))
def slices_Index_impl_Tie_impl_Tie.f (k : Nat) (l0 : List (S63)) (al : Int) (am : Int) : Option (Int) := slices_Index_impl_Tie_impl_Tie.l0 k l0 (l0.length : Int) 0 al am
theorem slices_Index_impl_Tie_impl_Tie.mono_l : ∀ k, (∀ y0 y1 y2 y3 y4, LeO (slices_Index_impl_Tie_impl_Tie.l0 k y0 y1 y2 y3 y4) (slices_Index_impl_Tie_impl_Tie.l0 (k + 1) y0 y1 y2 y3 y4))
 | 0 => fun _ _ _ _ _ r h => by simp [slices_Index_impl_Tie_impl_Tie.l0] at h
 | k + 1 => by
  have aN := slices_Index_impl_Tie_impl_Tie.mono_l k
  ·intro y0 y1 y2 y3 y4; unfold slices_Index_impl_Tie_impl_Tie.l0
   repeat' first
   | (with_reducible exact aN _ _ _ _ _)
   | (with_reducible exact LeO.refl _)
   | (with_reducible exact LeO.none _)
   | (with_reducible refine LeO.ite ?_ ?_)
   | (with_reducible refine LeO.bind ?_ (fun _ => ?_))
   | exact aN _ _ _ _ _
   | exact LeO.none _
   | refine LeO.ite ?_ ?_
   | refine LeO.bind ?_ (fun _ => ?_)
theorem slices_Index_impl_Tie_impl_Tie.mono : ∀ a0 a1 a2 k, LeO (slices_Index_impl_Tie_impl_Tie.f k a0 a1 a2) (slices_Index_impl_Tie_impl_Tie.f (k + 1) a0 a1 a2) := by
 intro a0 a1 a2 k; have aN := slices_Index_impl_Tie_impl_Tie.mono_l k; unfold slices_Index_impl_Tie_impl_Tie.f
 repeat' first | (with_reducible first | exact aN _ _ _ _ _ | exact LeO.refl _ | exact LeO.none _ | refine LeO.ite ?_ ?_ | refine LeO.bind ?_ (fun _ => ?_)) | exact aN _ _ _ _ _ | exact LeO.none _ | refine LeO.ite ?_ ?_ | refine LeO.bind ?_ (fun _ => ?_)
set_option maxHeartbeats 8000000 in
set_option maxRecDepth 100000 in
theorem slices_Index_impl_Tie_impl_Tie.calls (k : Nat) (A0 : Option Addr) (c0 : Nat) (l0 : List (S63)) (al : Int) (am : Int) (r : Int) (w : World) (bK : Kd.C k63 w A0 l0.length l0) (bL : l0.length ≤ c0) (h : slices_Index_impl_Tie_impl_Tie.f k l0 al am = some r) :
  Calls Try.prog 76 #[.slice A0 l0.length c0, .agg #[.int .i64 al, .int .i64 am]] w fun e w' => e = .returned (.int .i64 r) ∧ Below w.heap.size w w' := by
 have bO := Try.underlying63; have bS := G.m bK; have ct := G.m bL; clear bK bL; have HB := G.m (Below.refl w.heap.size w); have H : (slices_Index_impl_Tie_impl_Tie.l0 k l0 (l0.length : Int) 0 al am) = some r := h; clear h; have H' := G.m H; clear H
 go_enter Try.func76, Try.ntmps76
 go_wp2_with (first | ((with_reducible refine G.h 3 rfl ?_); refine G.be 3 #[.int .i64 al, .int .i64 am] 63 ?_; intro aG hg w3 hbox hb; have n0 := G.bs HB hb; have n1 := G.m (hbox); have n2 := G.m (caaB : w.heap.size ≤ aG); have n3 := G.m (caaB : w.heap.size ≤ aG); clear HB; revert n0 n1 n2 n3; intro HB aM bT bU; clear hb hbox hg))
 repeat (go_quiet (first | ((with_reducible refine G.h 3 rfl ?_); refine G.be 3 #[.int .i64 al, .int .i64 am] 63 ?_; intro aG hg w3 hbox hb; have n0 := G.bs HB hb; have n1 := G.m (hbox); have n2 := G.m (caaB : w.heap.size ≤ aG); have n3 := G.m (caaB : w.heap.size ≤ aG); clear HB; revert n0 n1 n2 n3; intro HB aM bT bU; clear hb hbox hg)); try go_wp2_with (first | ((with_reducible refine G.h 3 rfl ?_); refine G.be 3 #[.int .i64 al, .int .i64 am] 63 ?_; intro aG hg w3 hbox hb; have n0 := G.bs HB hb; have n1 := G.m (hbox); have n2 := G.m (caaB : w.heap.size ≤ aG); have n3 := G.m (caaB : w.heap.size ≤ aG); clear HB; revert n0 n1 n2 n3; intro HB aM bT bU; clear hb hbox hg)))
 go_loopg [8] k (fun kq v8 w' => ∃ (aj : Int), v8 = .int .i64 aj ∧ Aside0 (slices_Index_impl_Tie_impl_Tie.l0 kq l0 (l0.length : Int) aj al am = some r) ∧ Aside0 (kq ≤ k) ∧ Aside0 (w'.heap[aG]? = some (.cells #[.int .i64 al, .int .i64 am] 63 (0, 0))) ∧ Aside0 (Below w.heap.size w w'))
 case atStart => exact ⟨(0), (caaC), H', ⟨Nat.le_refl _⟩, ⟨G.cb aM.out⟩, ⟨G.cB HB.out⟩⟩
 case round =>
  clear H'; try clear p2
  obtain ⟨aj, rfl, HA, bo, aM, HB⟩ := hrel; cases gk with
  | zero => exact absurd HA.out (by simp [slices_Index_impl_Tie_impl_Tie.l0])
  | succ k1 =>
   have H := HA.out; clear HA; simp only [slices_Index_impl_Tie_impl_Tie.l0] at H
   by_cases c4 : aj < (l0.length : Int)
   ·rw [if_pos c4] at H; have cF : decide (aj < (l0.length : Int)) = true := decide_eq_true c4; clear c4
    by_cases c5 : 0 ≤ aj
    ·rw [if_pos c5] at H; have ew : decide (0 ≤ aj) = true := decide_eq_true c5; clear c5
     by_cases c6 : aj < (l0.length : Int)
     ·rw [if_pos c6] at H; have ex : decide (aj < (l0.length : Int)) = true := decide_eq_true c6; clear c6
      by_cases c7 : (al == ((rd_T63 l0 aj).f0) && (am == ((rd_T63 l0 aj).f1))) = true
      ·rw [if_pos c7] at H; have cG : (al == ((rd_T63 l0 aj).f0) && (am == ((rd_T63 l0 aj).f1))) = true := c7; (try (have cH : decide (al = ((rd_T63 l0 aj).f0) && (am == ((rd_T63 l0 aj).f1))) = true := by simpa using c7)); (try (have cI : (al == ((rd_T63 l0 aj).f0) && (am == ((rd_T63 l0 aj).f1))) = true := by simpa using c7)); clear c7; obtain rfl := Option.some.inj H; have ⟨dt, du, dv, dw⟩ := G.d2 (w := wr) aM; have aY : 0 ≤ (aj : Int) := of_decide_eq_true (G.asm); have aZ : aj < (l0.length : Int) := of_decide_eq_true (G.asm); obtain ⟨cm, bP, aH, aI⟩ := at_T63 bS.out aj aY aZ; cases bP; replace aH := G.hx HB aH; replace aI := G.hx HB aI; replace aY := eq_true aY; replace aZ := eq_true aZ
       go_wp2
       repeat (go_quiet (fail); try go_wp2)
       go_ret
       exact ⟨caaD, G.cB HB.out⟩
      ·rw [if_neg c7] at H; have cG : (al == ((rd_T63 l0 aj).f0) && (am == ((rd_T63 l0 aj).f1))) = false := by simpa using c7
       (try (have cH : decide (al = ((rd_T63 l0 aj).f0) && (am == ((rd_T63 l0 aj).f1))) = false := by simpa using c7)); (try (have cI : (al == ((rd_T63 l0 aj).f0) && (am == ((rd_T63 l0 aj).f1))) = false := by simpa using c7)); (try (have ey : ¬ (al = ((rd_T63 l0 aj).f0) && (am == ((rd_T63 l0 aj).f1))) := by simpa using c7)); clear c7; have H' := G.m H; clear H; have ⟨dx, dy, dz, dA⟩ := G.d2 (w := wr) aM; have aY : 0 ≤ (aj : Int) := of_decide_eq_true (G.asm); have aZ : aj < (l0.length : Int) := of_decide_eq_true (G.asm); obtain ⟨cm, bP, aH, aI⟩ := at_T63 bS.out aj aY aZ; cases bP; replace aH := G.hx HB aH; replace aI := G.hx HB aI; replace aY := eq_true aY; replace aZ := eq_true aZ
       go_wp2
       repeat (go_quiet (fail); try go_wp2)
       go_roundg k1
       case measure => have := bo.out; omega
       case rel => exact ⟨(wrap64 (aj + 1)), (caaC), H', ⟨by have := bo.out; omega⟩, ⟨G.cb aM.out⟩, ⟨G.cB HB.out⟩⟩
     ·rw [if_neg c6] at H; exact absurd H (by simp)
    ·rw [if_neg c5] at H; exact absurd H (by simp)
   ·rw [if_neg c4] at H; have cF : decide (aj < (l0.length : Int)) = false := decide_eq_false c4; clear c4; obtain rfl := Option.some.inj H
    go_wp2
    repeat (go_quiet (fail); try go_wp2)
    go_ret
    exact ⟨caaD, G.cB HB.out⟩

/-! ### slices_Contains_impl_Tie_impl_Tie: function 69 -/
def slices_Contains_impl_Tie_impl_Tie.f (k : Nat) (l0 : List (S63)) (al : Int) (am : Int) : Option (Bool) := (slices_Index_impl_Tie_impl_Tie.f k l0 al am).bind fun bf => (some (decide (bf ≥ 0)))
theorem slices_Contains_impl_Tie_impl_Tie.mono : ∀ a0 a1 a2 k, LeO (slices_Contains_impl_Tie_impl_Tie.f k a0 a1 a2) (slices_Contains_impl_Tie_impl_Tie.f (k + 1) a0 a1 a2) := by
 intro a0 a1 a2 k; unfold slices_Contains_impl_Tie_impl_Tie.f
 repeat' first | (with_reducible first | exact slices_Index_impl_Tie_impl_Tie.mono _ _ _ _ | exact LeO.refl _ | exact LeO.none _ | refine LeO.ite ?_ ?_ | refine LeO.bind ?_ (fun _ => ?_)) | exact slices_Index_impl_Tie_impl_Tie.mono _ _ _ _ | exact LeO.none _ | refine LeO.ite ?_ ?_ | refine LeO.bind ?_ (fun _ => ?_)
set_option maxHeartbeats 8000000 in
set_option maxRecDepth 100000 in
theorem slices_Contains_impl_Tie_impl_Tie.calls (k : Nat) (A0 : Option Addr) (c0 : Nat) (l0 : List (S63)) (al : Int) (am : Int) (r : Bool) (w : World) (bK : Kd.C k63 w A0 l0.length l0) (bL : l0.length ≤ c0) (h : slices_Contains_impl_Tie_impl_Tie.f k l0 al am = some r) :
  Calls Try.prog 69 #[.slice A0 l0.length c0, .agg #[.int .i64 al, .int .i64 am]] w fun e w' => e = .returned (.bool r) ∧ Below w.heap.size w w' := by
 have bO := Try.underlying63; have bS := G.m bK; have ct := G.m bL; clear bK bL; have HB := G.m (Below.refl w.heap.size w); have H : ((slices_Index_impl_Tie_impl_Tie.f k l0 al am).bind fun bf => (some (decide (bf ≥ 0)))) = some r := h; clear h; obtain ⟨bf, A3, H⟩ := G.bi H; replace H : (some (decide (bf ≥ 0))) = some r := H; obtain rfl := Option.some.inj H
 go_enter Try.func69, Try.ntmps69
 go_wp2_with (first | ((with_reducible refine G.h 3 rfl ?_); refine G.be 3 #[.int .i64 al, .int .i64 am] 63 ?_; intro bV hg w4 hbox hb; have n0 := G.bs HB hb; have n1 := G.m (hbox); have n2 := G.m (caaB : w.heap.size ≤ bV); have n3 := G.m (caaB : w.heap.size ≤ bV); clear HB; revert n0 n1 n2 n3; intro HB bl dO dP; clear hb hbox hg; have ⟨dB, dC, dD, dE⟩ := G.d2 (w := w4) bl) | ((with_reducible refine G.f 76 rfl ?_); refine G.gL 7 Try.func76 #[.slice A0 l0.length c0, .agg #[.int .i64 al, .int .i64 am]] ?_; (with_reducible refine (slices_Index_impl_Tie_impl_Tie.calls k _ _ l0 al am bf _ ?side1 ?side2 A3.out).mono ?_); (case side1 => exact G.cC (Kd.C_below bS.out HB.out)); (case side2 => exact ct.out); rintro e w6 ⟨rfl, hb⟩; refine ⟨_, rfl, ?_⟩; have n0 := G.bb bl hb; have n1 := G.bs HB hb; clear bl HB; revert n0 n1; intro bl HB; (try clear hb)))
 go_ret
 exact ⟨caaD, G.cB HB.out⟩

/-! ### impl_Net_has: function 52 -/
def impl_Net_has.f (k : Nat) (af : Int) (aa : List (S63)) (a1 : Int) (a2 : Int) : Option (Bool) := (impl_tie.f a1 a2).bind fun a7 => ((slices_Contains_impl_Tie_impl_Tie.f k aa a7.1 a7.2).bind fun aQ => (some aQ))
theorem impl_Net_has.mono : ∀ a0 a1 a2 a3 k, LeO (impl_Net_has.f k a0 a1 a2 a3) (impl_Net_has.f (k + 1) a0 a1 a2 a3) := by
 intro a0 a1 a2 a3 k; unfold impl_Net_has.f
 repeat' first | (with_reducible first | exact slices_Contains_impl_Tie_impl_Tie.mono _ _ _ _ | exact LeO.refl _ | exact LeO.none _ | refine LeO.ite ?_ ?_ | refine LeO.bind ?_ (fun _ => ?_)) | exact slices_Contains_impl_Tie_impl_Tie.mono _ _ _ _ | exact LeO.none _ | refine LeO.ite ?_ ?_ | refine LeO.bind ?_ (fun _ => ?_)
set_option maxHeartbeats 8000000 in
set_option maxRecDepth 100000 in
theorem impl_Net_has.calls (k : Nat) (af : Int) (aE : Option Addr) (ax : Nat) (aa : List (S63)) (a1 : Int) (a2 : Int) (r : Bool) (w : World) (a8 : Kd.C k63 w aE aa.length aa) (a9 : aa.length ≤ ax) (h : impl_Net_has.f k af aa a1 a2 = some r) :
  Calls Try.prog 52 #[.agg #[.int .i64 af, .slice aE aa.length ax], .int .i64 a1, .int .i64 a2] w fun e w' => e = .returned (.bool r) ∧ Below w.heap.size w w' := by
 have cJ := Try.underlying29; have bm := G.m a8; have bW := G.m a9; clear a8 a9; have HB := G.m (Below.refl w.heap.size w); have H : ((impl_tie.f a1 a2).bind fun a7 => ((slices_Contains_impl_Tie_impl_Tie.f k aa a7.1 a7.2).bind fun aQ => (some aQ))) = some r := h; clear h; obtain ⟨⟨bA, bB⟩, A4, H⟩ := G.bi H; replace H : ((slices_Contains_impl_Tie_impl_Tie.f k aa bA bB).bind fun aQ => (some aQ)) = some r := H; obtain ⟨aQ, A5, H⟩ := G.bi H; replace H : (some aQ) = some r := H; obtain rfl := Option.some.inj H
 go_enter Try.func52, Try.ntmps52; try go_wp2_with (first | ((with_reducible refine G.h 3 rfl ?_); refine G.be 3 #[.int .i64 af, .slice aE aa.length ax] 29 ?_; intro bn hg w6 hbox hb; have n0 := G.bs HB hb; have n1 := G.m (hbox); have n2 := G.m (caaB : w.heap.size ≤ bn); have n3 := G.m (caaB : w.heap.size ≤ bn); clear HB; revert n0 n1 n2 n3; intro HB av dQ dR; clear hb hbox hg))
 have n0 := G.m (blk_drew av.out); have n1 := G.m (below_drew1 HB.out); clear av HB; revert n0 n1; intro av HB; refine start_ (n := 7) (S := fun w' => w'.cell? ⟨bn, 0, none⟩ = some (.int .i64 af) ∧ w'.cell? ⟨bn, 1, none⟩ = some (.slice aE aa.length ax)) (ds := []) (G.fl 7 0) (by kernel_rfl) rfl (by kernel_rfl) ⟨G.z av 0, G.z av 1⟩ (fun hHeld => ?_); generalize w6.drew = w7 at av HB hHeld ⊢; refine G.pu 0 7 1 ?_; refine G.pu 2 9 5 ?_; refine G.pu 3 10 13 ?_; refine G.ta2 1 8 15 ?_; refine one_ (i := 4) (N := some 11) (G.fl 7 31) rfl rfl (by kernel_rfl) (by decide) (fun K hK => ?_); refine G.gs Try.func51 #[.int .i64 a1, .int .i64 a2] ?_; with_reducible refine (impl_tie.calls a1 a2 bA bB _ A4.out).mono ?_
 rintro e w8 ⟨rfl, hb⟩; refine ⟨_, rfl, ?_⟩; have n0 := G.bb av hb; have n1 := G.bs HB hb; clear av HB; revert n0 n1; intro av HB; (try clear hb); refine hK.out _ _ ⟨G.z av 0, G.z av 1⟩ (fun hHeld => ?_); clear hK K; refine G.no 11 ?_; refine one_ (i := 5) (N := some 12) (G.fl 7 63) rfl rfl (by kernel_rfl) (by decide) (fun K hK => ?_); refine G.gs Try.func69 #[.slice aE aa.length ax, .agg #[.int .i64 bA, .int .i64 bB]] ?_; with_reducible refine (slices_Contains_impl_Tie_impl_Tie.calls k _ _ aa bA bB aQ _ ?side1 ?side2 A5.out).mono ?_
 (case side1 => exact G.cC (Kd.C_below bm.out HB.out)); (case side2 => exact bW.out); rintro e w9 ⟨rfl, hb⟩; refine ⟨_, rfl, ?_⟩; have n0 := G.bb av hb; have n1 := G.bs HB hb; clear av HB; revert n0 n1; intro av HB; (try clear hb); refine hK.out _ _ ⟨G.z av 0, G.z av 1⟩ (fun hHeld => ?_); clear hK K; refine G.no 12 ?_; refine G.pu 6 6 127 ?_; refine done_ (by kernel_rfl) ?_; try go_wp2
 go_ret
 exact ⟨caaD, G.cB HB.out⟩

/-! ### impl_Net_less: function 50 -/
def impl_Net_less.l0 : Nat → List (S63) → List (S63) → Int → Int → Int → List (S63) → Option (Int × (List (S63)))
 | 0, _, _, _, _, _, _ => none
 | k + 1, x1, bp, ce, a_, bh, aX => if a_ < ce then (if 0 ≤ a_ then (if a_ < (bp.length : Int) then ((slices_Contains_impl_Tie_impl_Tie.f k x1 ((rd_T63 bp a_).f0) ((rd_T63 bp a_).f1)).bind fun bC => (if bC = true then (impl_Net_less.l0 k x1 bp ce (wrap64 (a_ + 1)) bh aX) else (if aX.length < 8796093022208 then (impl_Net_less.l0 k x1 bp ce (wrap64 (a_ + 1)) bh (aX ++ [(⟨(rd_T63 bp a_).f0, (rd_T63 bp a_).f1⟩ : S63)])) else (none)))) else (none)) else (none)) else (some (bh, aX))
def impl_Net_less.f (k : Nat) (af : Int) (aa : List (S63)) (l1 : List (S63)) : Option (Int × (List (S63))) := impl_Net_less.l0 k l1 aa (aa.length : Int) 0 af (([] : List (S63)))
theorem impl_Net_less.mono_l : ∀ k, (∀ y0 y1 y2 y3 y4 y5, LeO (impl_Net_less.l0 k y0 y1 y2 y3 y4 y5) (impl_Net_less.l0 (k + 1) y0 y1 y2 y3 y4 y5))
 | 0 => fun _ _ _ _ _ _ r h => by simp [impl_Net_less.l0] at h
 | k + 1 => by
  have aN := impl_Net_less.mono_l k
  ·intro y0 y1 y2 y3 y4 y5; unfold impl_Net_less.l0
   repeat' first
   | (with_reducible exact aN _ _ _ _ _ _)
   | (with_reducible exact slices_Contains_impl_Tie_impl_Tie.mono _ _ _ _)
   | (with_reducible exact LeO.refl _)
   | (with_reducible exact LeO.none _)
   | (with_reducible refine LeO.ite ?_ ?_)
   | (with_reducible refine LeO.bind ?_ (fun _ => ?_))
   | exact aN _ _ _ _ _ _
   | exact slices_Contains_impl_Tie_impl_Tie.mono _ _ _ _
   | exact LeO.none _
   | refine LeO.ite ?_ ?_
   | refine LeO.bind ?_ (fun _ => ?_)
theorem impl_Net_less.mono : ∀ a0 a1 a2 k, LeO (impl_Net_less.f k a0 a1 a2) (impl_Net_less.f (k + 1) a0 a1 a2) := by
 intro a0 a1 a2 k; have aN := impl_Net_less.mono_l k; unfold impl_Net_less.f
 repeat' first | (with_reducible first | exact aN _ _ _ _ _ _ | exact slices_Contains_impl_Tie_impl_Tie.mono _ _ _ _ | exact LeO.refl _ | exact LeO.none _ | refine LeO.ite ?_ ?_ | refine LeO.bind ?_ (fun _ => ?_)) | exact aN _ _ _ _ _ _ | exact slices_Contains_impl_Tie_impl_Tie.mono _ _ _ _ | exact LeO.none _ | refine LeO.ite ?_ ?_ | refine LeO.bind ?_ (fun _ => ?_)
set_option maxHeartbeats 8000000 in
set_option maxRecDepth 100000 in
theorem impl_Net_less.calls (k : Nat) (af : Int) (aE : Option Addr) (ax : Nat) (aa : List (S63)) (A1 : Option Addr) (c1 : Nat) (l1 : List (S63)) (r1 : Int) (r2 : List (S63)) (w : World) (a8 : Kd.C k63 w aE aa.length aa) (a9 : aa.length ≤ ax) (hr1 : Kd.C k63 w A1 l1.length l1) (cu : l1.length ≤ c1) (h : impl_Net_less.f k af aa l1 = some (r1, r2)) :
  Calls Try.prog 50 #[.agg #[.int .i64 af, .slice aE aa.length ax], .slice A1 l1.length c1] w fun e w' => ∃ cv : Value, e = .returned (.agg #[.int .i64 r1, cv]) ∧ Kd.R k63 63 w' w.heap.size (fun _ => True) cv r2 ∧ Below w.heap.size w w' := by
 have cJ := Try.underlying29; have bO := Try.underlying63; have bm := G.m a8; have bW := G.m a9; clear a8 a9; have cw := G.m hr1; have cx := G.m cu; clear hr1 cu; have HB := G.m (Below.refl w.heap.size w); have H : (impl_Net_less.l0 k l1 aa (aa.length : Int) 0 af (([] : List (S63)))) = some (r1, r2) := h; clear h; obtain ⟨bD, ba⟩ : ∃ y_ : List (S63), y_ = (([] : List (S63))) := ⟨_, rfl⟩; replace H : (impl_Net_less.l0 k l1 aa (aa.length : Int) 0 af bD) = some (r1, r2) := by first | (rw [ba]; with_reducible exact H) | (have bq := (Option.bind_some _ _).symm.trans H; rw [ba]; with_reducible exact bq) | (have bq := (Option.bind_some _ _).symm.trans H; with_reducible exact bq) | with_reducible exact H | (rw [ba]; exact H) | exact H
 have bX := G.m ba; clear ba; have H' := G.m H; clear H
 go_enter Try.func50, Try.ntmps50
 go_wp2_with (first | ((with_reducible refine G.h 2 rfl ?_); refine G.be 2 #[.int .i64 af, .slice aE aa.length ax] 29 ?_; intro au hg w3 hbox hb; have n0 := G.bs HB hb; have n1 := G.m (hbox); have n2 := G.m (caaB : w.heap.size ≤ au); have n3 := G.m (caaB : w.heap.size ≤ au); clear HB; revert n0 n1 n2 n3; intro HB ae dS dT; clear hb hbox hg) | ((with_reducible refine G.h 4 rfl ?_); refine G.be 4 #[.int .i64 0, .slice none 0 0] 29 ?_; intro ap hg w4 hbox hb; have n0 := G.bb ae hb; have n1 := G.bs HB hb; have n2 := G.m (hbox); have n3 := G.m (caaB : w.heap.size ≤ ap); have n4 := G.m (caaB : w.heap.size ≤ ap); have n5 := G.m (caaN : au ≠ ap); have n6 := G.m (caaO : ap ≠ au); clear ae HB; revert n0 n1 n2 n3 n4 n5 n6; intro ae HB ag dU dV bj bk; clear hb hbox hg; have ez := bj.out; have eA := bk.out; have ⟨bG, bH, bI, bJ⟩ := G.d2 (w := w4) ae) | ((with_reducible refine G.h 10 rfl ?_); refine Kd.R_lit k63 _ 63 ?hg (N := 10) ?hd (xs := ([] : List (S63))) (inner := []) (ok := fun _ => True) (okp := fun _ => True) ?hr ?hp (fun _ hk => hk) trivial (Below.refl _ _) (Nat.le_refl _) (by simp) ?_; (case hd => rfl); (case hg => rfl); (case hr => first | (go_simp; done) | (go_simp; rfl)); (case hp => exact (Reps.none _ _)); intro eB w7 bM hb hg_ hnew_; clear hg_ hnew_; (first | rw [← bX.out] at bM | (simp only [Int.reduceToNat] at bM; rw [← bX.out] at bM)); have n0 := G.m (Kd.R_lower bM (below_size (G.cB HB.out))); have n1 := G.bb ae hb; have n2 := G.bb ag hb; have n3 := G.bs HB hb; clear ae ag HB; revert n0 n1 n2 n3; intro bc ae ag HB; clear hb bM; obtain ⟨cy, cz, dF⟩ := Kd.R_slice bc.out; subst dF) | ((with_reducible refine G.h 5 rfl ?_); refine G.be 5 #[.int .i64 0, .slice none 0 0] 29 ?_; intro ao hg cA hbox hb; have n0 := G.rb bc hb; have n1 := G.bb ae hb; have n2 := G.bb ag hb; have n3 := G.bs HB hb; have n4 := G.m (hbox); have n5 := G.m (caaB : w.heap.size ≤ ao); have n6 := G.m (caaB : w.heap.size ≤ ao); have n7 := G.m (caaN : au ≠ ao); have n8 := G.m (caaO : ao ≠ au); have n9 := G.m (caaF : ap ≠ ao); have bN := G.m (caaE : ao ≠ ap); clear bc ae ag HB; revert n0 n1 n2 n3 n4 n5 n6 n7 n8 n9 bN; intro bc ae ag HB ah dW dX ay aR az aT; clear hb hbox hg; have dY := aR.out; have dZ := ay.out; have d7 := aT.out; have d8 := az.out; have ⟨b4, b5, b6, b7⟩ := G.d2 (w := cA) ah; have ⟨b8, b9, b_, ca⟩ := G.d2 (w := cA) ae))
 go_loopg [15] k (fun kq dG w' => ∃ (ab : Int) (ai : List (S63)) (aq : Value), dG = .int .i64 ab ∧ Aside0 (impl_Net_less.l0 kq l1 aa (aa.length : Int) ab af ai = some (r1, r2)) ∧ Aside0 (kq ≤ k) ∧ Aside0 (Kd.R k63 63 w' w.heap.size (fun _ => True) aq ai) ∧ Aside0 (w'.heap[au]? = some (.cells #[.int .i64 af, (.slice aE aa.length ax)] 29 (0, 0))) ∧ Aside0 (w'.heap[ap]? = some (.cells #[.int .i64 0, (.slice none 0 0)] 29 (0, 0))) ∧ Aside0 (w'.heap[ao]? = some (.cells #[.int .i64 af, aq] 29 (0, 0))) ∧ Aside0 (Below w.heap.size w w'))
 case atStart => exact ⟨(0), (bD), (.slice cy bD.length cz), (caaC), H', ⟨Nat.le_refl _⟩, ⟨by (with_reducible repeat (first | apply Kd.R_alloc | apply Kd.R_drewN | apply Kd.R_drew)); exact Kd.R_mono (Kd.R_far (p := ⟨ao, 1, none⟩) (Kd.R_far (p := ⟨ao, 0, none⟩) (Kd.R_types bc.out ah.out (by decide)) (fun _ hk => hk.2) (.int .i64 af)) (fun _ hk => hk.2) (.slice cy bD.length cz)) (fun _ hk => trivial)⟩, ⟨by (with_reducible repeat (first | refine blk_drewN ?_ _ | refine blk_drew ?_ | refine blk_alloc ?_ _)); refine blk_far ?_ ay.out _; (with_reducible repeat (first | refine blk_drewN ?_ _ | refine blk_drew ?_ | refine blk_alloc ?_ _)); refine blk_far ?_ ay.out _; (with_reducible repeat (first | refine blk_drewN ?_ _ | refine blk_drew ?_ | refine blk_alloc ?_ _)); exact ae.out⟩, ⟨by (with_reducible repeat (first | refine blk_drewN ?_ _ | refine blk_drew ?_ | refine blk_alloc ?_ _)); refine blk_far ?_ az.out _; (with_reducible repeat (first | refine blk_drewN ?_ _ | refine blk_drew ?_ | refine blk_alloc ?_ _)); refine blk_far ?_ az.out _; (with_reducible repeat (first | refine blk_drewN ?_ _ | refine blk_drew ?_ | refine blk_alloc ?_ _)); exact ag.out⟩, ⟨by (with_reducible repeat (first | refine blk_drewN ?_ _ | refine blk_drew ?_ | refine blk_alloc ?_ _)); refine blk_put (cs := #[.int .i64 af, .slice none 0 0]) ?_ 1 _ rfl; (with_reducible repeat (first | refine blk_drewN ?_ _ | refine blk_drew ?_ | refine blk_alloc ?_ _)); refine blk_put (cs := #[.int .i64 0, .slice none 0 0]) ?_ 0 _ rfl; (with_reducible repeat (first | refine blk_drewN ?_ _ | refine blk_drew ?_ | refine blk_alloc ?_ _)); exact ah.out⟩, ⟨G.cB HB.out⟩⟩
 case round =>
  clear H'; (try clear b4 b5 b8 b9 bG bH b6 b7 b_ ca bI bJ); obtain ⟨ab, ai, aq, rfl, HA, bo, ac, ae, ag, ah, HB⟩ := hrel; cases gk with
  | zero => exact absurd HA.out (by simp [impl_Net_less.l0])
  | succ k1 =>
   have H := HA.out; clear HA; simp only [impl_Net_less.l0] at H
   by_cases bv : ab < (aa.length : Int)
   ·rw [if_pos bv] at H; have cn : decide (ab < (aa.length : Int)) = true := decide_eq_true bv; clear bv
    by_cases bY : 0 ≤ ab
    ·rw [if_pos bY] at H; have d9 : decide (0 ≤ ab) = true := decide_eq_true bY; clear bY
     by_cases bZ : ab < (aa.length : Int)
     ·rw [if_pos bZ] at H; have d_ : decide (ab < (aa.length : Int)) = true := decide_eq_true bZ; clear bZ; obtain ⟨bC, cD, H⟩ := G.bi H; replace H : (if bC = true then (impl_Net_less.l0 k1 l1 aa (aa.length : Int) (wrap64 (ab + 1)) af ai) else (if ai.length < 8796093022208 then (impl_Net_less.l0 k1 l1 aa (aa.length : Int) (wrap64 (ab + 1)) af (ai ++ [(⟨(rd_T63 aa ab).f0, (rd_T63 aa ab).f1⟩ : S63)])) else (none))) = some (r1, r2) := H
      by_cases b1 : bC = true
      ·subst b1; have H1 : (impl_Net_less.l0 k1 l1 aa (aa.length : Int) (wrap64 (ab + 1)) af ai) = some (r1, r2) := by rw [if_pos rfl] at H; exact H
       clear H; have H := H1; clear H1; have H' := G.m H; clear H; have a4 : 0 ≤ (ab : Int) := of_decide_eq_true (G.asm); have a5 : ab < (aa.length : Int) := of_decide_eq_true (G.asm); obtain ⟨a6, bQ, aJ, aK⟩ := at_T63 bm.out ab a4 a5; cases bQ; replace aJ := G.hx HB aJ; replace aK := G.hx HB aK; replace a4 := eq_true a4; replace a5 := eq_true a5
       go_wp2_with (first | ((with_reducible refine G.h 7 rfl ?_); refine G.be 7 #[.int .i64 0, .int .i64 0] 63 ?_; intro ak hg dH hbox hb; have n0 := G.m (Kd.R_below (Kd.R_elderB (G.cR ac.out) ak (Nat.le_of_eq hg.symm)) hb); have n1 := G.bb ae hb; have n2 := G.bb ag hb; have n3 := G.bb ah hb; have n4 := G.bs HB hb; have n5 := G.m (hbox); have n6 := G.m (caaB : w.heap.size ≤ ak); have n7 := G.m (caaB : w.heap.size ≤ ak); have n8 := G.m (caaL : au ≠ ak); have n9 := G.m (caaM : ak ≠ au); have bN := G.m (caaF : ap ≠ ak); have cf := G.m (caaE : ak ≠ ap); have cg := G.m ((by rw [hg]; exact Nat.ne_of_lt (blk_lt (g := ao) (o := .cells #[.int .i64 af, aq] 29 (0, 0)) (G.cb ah.out)) : ao ≠ ak)); have ch := G.m ((by rw [hg]; exact Nat.ne_of_gt (blk_lt (g := ao) (o := .cells #[.int .i64 af, aq] 29 (0, 0)) (G.cb ah.out)) : ak ≠ ao)); clear ac ae ag ah HB; revert n0 n1 n2 n3 n4 n5 n6 n7 n8 n9 bN cf cg ch; intro ac ae ag ah HB aw co cp aA aU aC aV aD aW; clear hb hbox hg; have ea := aU.out; have eb := aA.out; have ec := aV.out; have ed := aC.out; have ee := aW.out; have ef := aD.out; have ⟨cN, cO, cP, cQ⟩ := G.d2 (w := dH) aw) | ((with_reducible refine G.f 69 rfl ?_); refine G.gL 21 Try.func69 #[.slice A1 l1.length c1, .agg #[.int .i64 ((rd_T63 aa ab).f0), .int .i64 ((rd_T63 aa ab).f1)]] ?_; (with_reducible refine (slices_Contains_impl_Tie_impl_Tie.calls k1 _ _ l1 ((rd_T63 aa ab).f0) ((rd_T63 aa ab).f1) true _ ?side1 ?side2 cD.out).mono ?_); (case side1 => exact Kd.C_below cw.out (G.cB HB.out)); (case side2 => exact cx.out); rintro e eD ⟨rfl, hb⟩; refine ⟨_, rfl, ?_⟩; have n0 := G.m (Kd.R_below (caaK) hb); have n1 := G.m (blk_below (g := au) (o := .cells #[.int .i64 af, .slice (some a6) aa.length ax] 29 (0, 0)) (caaH) hb); have n2 := G.m (blk_below (g := ap) (o := .cells #[.int .i64 0, .slice none 0 0] 29 (0, 0)) (caaI) hb); have n3 := G.m (blk_below (g := ao) (o := .cells #[.int .i64 af, aq] 29 (0, 0)) (caaJ) hb); have n4 := G.m (blk_below (g := ak) (o := .cells #[.int .i64 ((rd_T63 aa ab).f0), .int .i64 ((rd_T63 aa ab).f1)] 63 (0, 0)) (caaG) hb); have n5 := G.bs HB hb; clear ac ae ag ah aw HB; revert n0 n1 n2 n3 n4 n5; intro ac ae ag ah aw HB; (try clear hb)))
       go_roundg k1
       case measure => have := bo.out; omega
       case rel => exact ⟨(wrap64 (ab + 1)), (ai), (aq), (caaC), H', ⟨by have := bo.out; omega⟩, ⟨by (with_reducible repeat (first | apply Kd.R_alloc | apply Kd.R_drewN | apply Kd.R_drew)); exact Kd.R_mono ac.out (fun _ hk => trivial)⟩, ⟨G.cb ae.out⟩, ⟨G.cb ag.out⟩, ⟨G.cb ah.out⟩, ⟨G.cB HB.out⟩⟩
      ·replace b1 := Bool.eq_false_iff.mpr b1; subst b1; have H1 : (if ai.length < 8796093022208 then (impl_Net_less.l0 k1 l1 aa (aa.length : Int) (wrap64 (ab + 1)) af (ai ++ [(⟨(rd_T63 aa ab).f0, (rd_T63 aa ab).f1⟩ : S63)])) else (none)) = some (r1, r2) := by rw [if_neg (show ¬ (false = true) by decide)] at H; exact H
       clear H; have H := H1; clear H1
       by_cases b2 : ai.length < 8796093022208
       ·rw [if_pos b2] at H; have cq := G.m b2; clear b2; obtain ⟨bE, bd⟩ : ∃ y_ : List (S63), y_ = (ai ++ [(⟨(rd_T63 aa ab).f0, (rd_T63 aa ab).f1⟩ : S63)]) := ⟨_, rfl⟩; replace H : (impl_Net_less.l0 k1 l1 aa (aa.length : Int) (wrap64 (ab + 1)) af bE) = some (r1, r2) := by first | (rw [bd]; with_reducible exact H) | (have bq := (Option.bind_some _ _).symm.trans H; rw [bd]; with_reducible exact bq) | (have bq := (Option.bind_some _ _).symm.trans H; with_reducible exact bq) | with_reducible exact H | (rw [bd]; exact H) | exact H
        have cr := G.m bd; clear bd; have H' := G.m H; clear H; have a4 : 0 ≤ (ab : Int) := of_decide_eq_true (G.asm); have a5 : ab < (aa.length : Int) := of_decide_eq_true (G.asm); obtain ⟨a6, bQ, aJ, aK⟩ := at_T63 bm.out ab a4 a5; cases bQ; replace aJ := G.hx HB aJ; replace aK := G.hx HB aK; replace a4 := eq_true a4; replace a5 := eq_true a5
        go_wp2_with (first | ((with_reducible refine G.h 7 rfl ?_); refine G.be 7 #[.int .i64 0, .int .i64 0] 63 ?_; intro ak hg dI hbox hb; have n0 := G.m (Kd.R_below (Kd.R_elderB (G.cR ac.out) ak (Nat.le_of_eq hg.symm)) hb); have n1 := G.bb ae hb; have n2 := G.bb ag hb; have n3 := G.bb ah hb; have n4 := G.bs HB hb; have n5 := G.m (hbox); have n6 := G.m (caaB : w.heap.size ≤ ak); have n7 := G.m (caaB : w.heap.size ≤ ak); have n8 := G.m (caaL : au ≠ ak); have n9 := G.m (caaM : ak ≠ au); have bN := G.m (caaF : ap ≠ ak); have cf := G.m (caaE : ak ≠ ap); have cg := G.m ((by rw [hg]; exact Nat.ne_of_lt (blk_lt (g := ao) (o := .cells #[.int .i64 af, aq] 29 (0, 0)) (G.cb ah.out)) : ao ≠ ak)); have ch := G.m ((by rw [hg]; exact Nat.ne_of_gt (blk_lt (g := ao) (o := .cells #[.int .i64 af, aq] 29 (0, 0)) (G.cb ah.out)) : ak ≠ ao)); clear ac ae ag ah HB; revert n0 n1 n2 n3 n4 n5 n6 n7 n8 n9 bN cf cg ch; intro ac ae ag ah HB aw co cp aA aU aC aV aD aW; clear hb hbox hg; have eg := aU.out; have eh := aA.out; have ei := aV.out; have ej := aC.out; have ek := aW.out; have el := aD.out; have ⟨cS, cT, cU, cW⟩ := G.d2 (w := dI) aw) | ((with_reducible refine G.f 69 rfl ?_); refine G.gL 21 Try.func69 #[.slice A1 l1.length c1, .agg #[.int .i64 ((rd_T63 aa ab).f0), .int .i64 ((rd_T63 aa ab).f1)]] ?_; (with_reducible refine (slices_Contains_impl_Tie_impl_Tie.calls k1 _ _ l1 ((rd_T63 aa ab).f0) ((rd_T63 aa ab).f1) false _ ?side1 ?side2 cD.out).mono ?_); (case side1 => exact Kd.C_below cw.out (G.cB HB.out)); (case side2 => exact cx.out); rintro e cE ⟨rfl, hb⟩; refine ⟨_, rfl, ?_⟩; have n0 := G.m (Kd.R_below (caaK) hb); have n1 := G.m (blk_below (g := au) (o := .cells #[.int .i64 af, .slice (some a6) aa.length ax] 29 (0, 0)) (caaH) hb); have n2 := G.m (blk_below (g := ap) (o := .cells #[.int .i64 0, .slice none 0 0] 29 (0, 0)) (caaI) hb); have n3 := G.m (blk_below (g := ao) (o := .cells #[.int .i64 af, aq] 29 (0, 0)) (caaJ) hb); have n4 := G.m (blk_below (g := ak) (o := .cells #[.int .i64 ((rd_T63 aa ab).f0), .int .i64 ((rd_T63 aa ab).f1)] 63 (0, 0)) (caaG) hb); have n5 := G.bs HB hb; clear ac ae ag ah aw HB; revert n0 n1 n2 n3 n4 n5; intro ac ae ag ah aw HB; (try clear hb); have em := aR.out; have en := ay.out; have eo := aT.out; have ep := az.out; have ⟨cX, cY, cZ, c_⟩ := G.d2 (w := cE) ah; have ⟨da, db, dc, dd⟩ := G.d2 (w := cE) aw) | ((with_reducible refine gate_builtin (b := .append) (xs := #[.tmp 24, .tmp 26]) rfl ?_); at_builtin; refine Kd.R_append k63 (w0 := w) w.heap.size rfl (.tmp 24) (.tmp 26) 27 63 (.agg #[(.int .i64 0), (.int .i64 0)]) 16 rfl Try.underlying27 info63 rfl (by decide) (by omega) aq ai (⟨(rd_T63 aa ab).f0, (rd_T63 aa ab).f1⟩ : S63) [.int .i64 ((rd_T63 aa ab).f0), .int .i64 ((rd_T63 aa ab).f1)] (fun k_ => k_ ≠ ak) (fun _ => False) rfl rfl ?aP (fun _ hk => hk.elim) ?aF ?aO ?aB ?aS ?aL ?_; (case aP => exact k63_mkM _ _ _ (⟨(rd_T63 aa ab).f0, (rd_T63 aa ab).f1⟩ : S63)); (case aB => exact (G.cB HB.out)); (case aF => exact (fun k_ hk => Kd.freshB (g := ak) (o := .cells #[.int .i64 ((rd_T63 aa ab).f0), .int .i64 ((rd_T63 aa ab).f1)] 63 (0, 0)) (G.cb aw.out) k_ hk)); (case aO => exact (by (with_reducible repeat (first | apply Kd.R_alloc | apply Kd.R_drewN | apply Kd.R_drew)); exact Kd.R_mono ac.out (fun _ hk => hk.2))); (case aS => exact (below_size (G.cB HB.out))); (case aL => have := cq.out; omega); intro eC dJ ho hb hg hat; rw [← cr.out] at ho; have n0 := G.bg ae hg (Kd.R_ne ac.out ae.out (by decide)); have n1 := G.bg ag hg (Kd.R_ne ac.out ag.out (by decide)); have n2 := G.bg ah hg (Kd.R_ne ac.out ah.out (by decide)); have n3 := G.bg aw hg (Kd.R_away ac.out (fun _ hk => hk.2)); have n4 := G.m (hb); have n5 := G.m (ho); clear ae ag ah aw HB ac; revert n0 n1 n2 n3 n4 n5; intro ae ag ah aw HB b3; clear ho hb hg hat; obtain ⟨ci, cj, cL⟩ := Kd.R_slice b3.out; subst cL; have ⟨de, df, dg, dh⟩ := G.d2 (w := dJ) ah))
        go_roundg k1
        case measure => have := bo.out; omega
        case rel => exact ⟨(wrap64 (ab + 1)), (bE), (.slice ci bE.length cj), (caaC), H', ⟨by have := bo.out; omega⟩, ⟨by (with_reducible repeat (first | apply Kd.R_alloc | apply Kd.R_drewN | apply Kd.R_drew)); exact Kd.R_mono (Kd.R_far (p := ⟨ao, 1, none⟩) (Kd.R_types b3.out ah.out (by decide)) (fun _ hk => hk.2) (.slice ci bE.length cj)) (fun _ hk => trivial)⟩, ⟨by (with_reducible repeat (first | refine blk_drewN ?_ _ | refine blk_drew ?_ | refine blk_alloc ?_ _)); refine blk_far ?_ ay.out _; (with_reducible repeat (first | refine blk_drewN ?_ _ | refine blk_drew ?_ | refine blk_alloc ?_ _)); exact ae.out⟩, ⟨by (with_reducible repeat (first | refine blk_drewN ?_ _ | refine blk_drew ?_ | refine blk_alloc ?_ _)); refine blk_far ?_ az.out _; (with_reducible repeat (first | refine blk_drewN ?_ _ | refine blk_drew ?_ | refine blk_alloc ?_ _)); exact ag.out⟩, ⟨by (with_reducible repeat (first | refine blk_drewN ?_ _ | refine blk_drew ?_ | refine blk_alloc ?_ _)); refine blk_put (cs := #[.int .i64 af, aq]) ?_ 1 _ rfl; (with_reducible repeat (first | refine blk_drewN ?_ _ | refine blk_drew ?_ | refine blk_alloc ?_ _)); exact ah.out⟩, ⟨G.cB HB.out⟩⟩
       ·rw [if_neg b2] at H; exact absurd H (by simp)
     ·rw [if_neg bZ] at H; exact absurd H (by simp)
    ·rw [if_neg bY] at H; exact absurd H (by simp)
   ·rw [if_neg bv] at H; have cn : decide (ab < (aa.length : Int)) = false := decide_eq_false bv; clear bv; simp only [Option.some.injEq, Prod.mk.injEq] at H; obtain ⟨rfl, rfl⟩ := H; have eq := aR.out; have er := ay.out; have es := aT.out; have et := az.out; have ⟨di, dj, dk, dl⟩ := G.d2 (w := wr) ah; have eu := bk.out; have ev := bj.out; have ⟨dn, dp, dq, dr⟩ := G.d2 (w := wr) ag; obtain ⟨ck, cl, cM⟩ := Kd.R_slice ac.out; subst cM
    go_wp2; refine bodyPost_ret (results_cell_row rfl _ _ ap 29 #[.int .i64 af, .slice ck ai.length cl] (0, 0) _ rfl (by (with_reducible repeat (first | refine blk_drewN ?_ _ | refine blk_drew ?_ | refine blk_alloc ?_ _)); refine blk_put (cs := #[.int .i64 af, .slice none 0 0]) ?_ 1 _ rfl; (with_reducible repeat (first | refine blk_drewN ?_ _ | refine blk_drew ?_ | refine blk_alloc ?_ _)); refine blk_put (cs := #[.int .i64 0, .slice none 0 0]) ?_ 0 _ rfl; (with_reducible repeat (first | refine blk_drewN ?_ _ | refine blk_drew ?_ | refine blk_alloc ?_ _)); exact ag.out) Try.underlying29 rfl (by kernel_rfl)) rfl ?_; exact ⟨_, by first | rfl | (simp [errW_none, errW_some] <;> rfl) | (simp [*, errW_none, errW_some] <;> rfl), by (with_reducible repeat (first | apply Kd.R_alloc | apply Kd.R_drewN | apply Kd.R_drew)); exact Kd.R_mono (Kd.R_far (p := ⟨ap, 1, none⟩) (Kd.R_far (p := ⟨ap, 0, none⟩) (Kd.R_types ac.out ag.out (by decide)) (fun _ hk => hk.2) (.int .i64 af)) (fun _ hk => hk.2) (.slice ck ai.length cl)) (fun _ hk => trivial), G.cB HB.out⟩

end Go.Proofs.Ytbkdpnfjcnkoeaa.P
