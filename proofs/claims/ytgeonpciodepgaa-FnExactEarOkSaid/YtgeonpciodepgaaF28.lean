-- Printed by a program of this session (mp.py, over the kit's print). Not trusted: Lean checks it.
import Derived.Test.YtgeonpciodepgaaF0
namespace Go.Proofs.Ytgeonpciodepgaa.P
open Go.RowKit Go.Proofs.YtgeonpciodepgaaW.PrintWords Go.Proofs.YtgeonpciodepgaaW.PrintLast Go.Proofs.YtgeonpciodepgaaW.PrintMore
attribute [local go_sem] max2_int min2_int max_two min_two max_three min_three max_four min_four   -- for this text's walks alone
set_option linter.unusedVariables false
set_option linter.unusedSimpArgs false

theorem cac6 {p : Prop} (h : p := by rw [hg]; exact Nat.ne_of_lt (blk_lt (g := aO) (o := .cells #[.int .i64 ab, .slice ai ac.length aj] 24 (0, 0)) (G.cb ay.out))) : p := h
theorem cac7 {p : Prop} (h : p := by rw [hg]; exact Nat.ne_of_gt (blk_lt (g := aO) (o := .cells #[.int .i64 ab, .slice ai ac.length aj] 24 (0, 0)) (G.cb ay.out))) : p := h
theorem cac2 {p : Prop} (h : p := by rw [hg]; exact Nat.ne_of_lt (blk_lt (g := ak) (o := .cells #[.int .i64 ab, .slice ai ac.length aj] 31 (0, 0)) (G.cb af.out))) : p := h
theorem cac3 {p : Prop} (h : p := by rw [hg]; exact Nat.ne_of_gt (blk_lt (g := ak) (o := .cells #[.int .i64 ab, .slice ai ac.length aj] 31 (0, 0)) (G.cb af.out))) : p := h
theorem cac4 {p : Prop} (h : p := by rw [hg]; exact Nat.ne_of_lt (blk_lt (g := al) (o := .cells #[.int .i64 ab, .int .i64 ag] 59 (0, 0)) (G.cb am.out))) : p := h
theorem cac5 {p : Prop} (h : p := by rw [hg]; exact Nat.ne_of_gt (blk_lt (g := al) (o := .cells #[.int .i64 ab, .int .i64 ag] 59 (0, 0)) (G.cb am.out))) : p := h
theorem cac0 {p : Prop} (h : p := by first | rfl | (simp [errW_none, errW_some] <;> rfl) | (simp [*, errW_none, errW_some] <;> rfl)) : p := h
theorem cac1 {p : Prop} (h : p := by first | rfl | (simp; done) | (simp [*]; done)) : p := h
theorem cacZ {p : Prop} (h : p := by rw [hg]; exact (below_size (G.cB HB.out))) : p := h
/-! ### laws_szTieS: function 43 -/
def laws_szTieS.f (l0 : List (S100)) (a1 : Int) : Option (Int) := if (wrap64 (a1 - (l0.length : Int))) < 0 then (some (-1)) else (some (wrap64 (a1 - (l0.length : Int))))
set_option maxHeartbeats 8000000 in
set_option maxRecDepth 100000 in
theorem laws_szTieS.calls (A0 : Option Addr) (c0 : Nat) (l0 : List (S100)) (a1 : Int) (r : Int) (w : World) (a_ : Kd.C k100 w A0 l0.length l0) (ba : l0.length ≤ c0) (h : laws_szTieS.f l0 a1 = some r) :
  Calls Try.prog 43 #[.slice A0 l0.length c0, .int .i64 a1] w fun e w' => e = .returned (.int .i64 r) ∧ Drawn0 w w' := by
 have bE := G.m a_; have c_ := G.m ba; clear a_ ba; have H : (if (wrap64 (a1 - (l0.length : Int))) < 0 then (some (-1)) else (some (wrap64 (a1 - (l0.length : Int))))) = some r := h; clear h
 by_cases c3 : (wrap64 (a1 - (l0.length : Int))) < 0
 ·rw [if_pos c3] at H; have aE : decide ((wrap64 (a1 - (l0.length : Int))) < 0) = true := decide_eq_true c3; clear c3; obtain rfl := Option.some.inj H
  go_enter Try.func43, Try.ntmps43
  go_wp2
  go_ret
  exact ⟨cac1, by repeat (first | exact Drawn0.refl _ | apply Drawn0.step)⟩
 ·rw [if_neg c3] at H; have aE : decide ((wrap64 (a1 - (l0.length : Int))) < 0) = false := decide_eq_false c3; clear c3; obtain rfl := Option.some.inj H
  go_enter Try.func43, Try.ntmps43
  go_wp2
  go_ret
  exact ⟨cac1, by repeat (first | exact Drawn0.refl _ | apply Drawn0.step)⟩

/-! ### laws_szNet: function 14 -/
def laws_szNet.f (ab : Int) (ac : List (S100)) (a1 : Int) : Option (Int) := (laws_szTieS.f ac a1).bind fun aF => (if aF < 0 then (some (-1)) else (some aF))
set_option maxHeartbeats 8000000 in
set_option maxRecDepth 100000 in
theorem laws_szNet.calls (ab : Int) (ai : Option Addr) (aj : Nat) (ac : List (S100)) (a1 : Int) (r : Int) (w : World) (aS : Kd.C k100 w ai ac.length ac) (aT : ac.length ≤ aj) (h : laws_szNet.f ab ac a1 = some r) :
  Calls Try.prog 14 #[.agg #[.int .i64 ab, .slice ai ac.length aj], .int .i64 a1] w fun e w' => e = .returned (.int .i64 r) ∧ Below w.heap.size w w' := by
 have dH := Try.underlying24; have aZ := G.m aS; have a4 := G.m aT; clear aS aT; have HB := G.m (Below.refl w.heap.size w); have H : ((laws_szTieS.f ac a1).bind fun aF => (if aF < 0 then (some (-1)) else (some aF))) = some r := h; clear h; obtain ⟨aF, A3, H⟩ := G.bi H; replace H : (if aF < 0 then (some (-1)) else (some aF)) = some r := H
 by_cases c4 : aF < 0
 ·rw [if_pos c4] at H; have bj : decide (aF < 0) = true := decide_eq_true c4; clear c4; obtain rfl := Option.some.inj H
  go_enter Try.func14, Try.ntmps14
  go_wp2_with (first | ((with_reducible refine G.h 2 rfl ?_); refine G.be 2 #[.int .i64 ab, .slice ai ac.length aj] 24 ?_; intro bz hg w5 hbox hb; have n0 := G.bs HB hb; have n1 := G.m (hbox); have n2 := G.m (cacZ : w.heap.size ≤ bz); have n3 := G.m (cacZ : w.heap.size ≤ bz); clear HB; revert n0 n1 n2 n3; intro HB bR dt du; clear hb hbox hg; have ⟨es, et, eu, ev⟩ := G.d2 (w := w5) bR) | ((with_reducible refine G.f 43 rfl ?_); refine G.gL 8 Try.func43 #[.slice ai ac.length aj, .int .i64 a1] ?_; (with_reducible refine (laws_szTieS.calls _ _ ac a1 aF _ ?side1 ?side2 A3.out).mono ?_); (case side1 => exact G.cC (Kd.C_below aZ.out HB.out)); (case side2 => exact a4.out); rintro e w' ⟨rfl, ⟨nd, rfl⟩⟩; refine ⟨_, rfl, ?_⟩))
  go_ret
  exact ⟨cac0, G.cB HB.out⟩
 ·rw [if_neg c4] at H; have bj : decide (aF < 0) = false := decide_eq_false c4; clear c4; obtain rfl := Option.some.inj H
  go_enter Try.func14, Try.ntmps14
  go_wp2_with (first | ((with_reducible refine G.h 2 rfl ?_); refine G.be 2 #[.int .i64 ab, .slice ai ac.length aj] 24 ?_; intro bz hg w7 hbox hb; have n0 := G.bs HB hb; have n1 := G.m (hbox); have n2 := G.m (cacZ : w.heap.size ≤ bz); have n3 := G.m (cacZ : w.heap.size ≤ bz); clear HB; revert n0 n1 n2 n3; intro HB bR dt du; clear hb hbox hg; have ⟨bW, bX, bY, bZ⟩ := G.d2 (w := w7) bR) | ((with_reducible refine G.f 43 rfl ?_); refine G.gL 8 Try.func43 #[.slice ai ac.length aj, .int .i64 a1] ?_; (with_reducible refine (laws_szTieS.calls _ _ ac a1 aF _ ?side1 ?side2 A3.out).mono ?_); (case side1 => exact G.cC (Kd.C_below aZ.out HB.out)); (case side2 => exact a4.out); rintro e w' ⟨rfl, ⟨nd, rfl⟩⟩; refine ⟨_, rfl, ?_⟩))
  go_ret
  exact ⟨cac0, G.cB HB.out⟩

/-! ### laws_toTie: function 87 -/
def laws_toTie.f (ab : Int) (ag : Int) : Option (Int × Int) := some (ab, ag)
set_option maxHeartbeats 8000000 in
set_option maxRecDepth 100000 in
theorem laws_toTie.calls (ab : Int) (ag : Int) (r1 : Int) (r2 : Int) (w : World) (h : laws_toTie.f ab ag = some (r1, r2)) :
  Calls Try.prog 87 #[.agg #[.int .i64 ab, .int .i64 ag]] w fun e w' => e = .returned (.agg #[.int .i64 r1, .int .i64 r2]) ∧ Below w.heap.size w w' := by
 have dv := Try.underlying100; have ci := Try.underlying59; have HB := G.m (Below.refl w.heap.size w); have H : (some (ab, ag)) = some (r1, r2) := h; clear h; simp only [Option.some.injEq, Prod.mk.injEq] at H; obtain ⟨rfl, rfl⟩ := H
 go_enter Try.func87, Try.ntmps87
 go_wp2_with (first | ((with_reducible refine G.h 1 rfl ?_); refine G.be 1 #[.int .i64 ab, .int .i64 ag] 100 ?_; intro aH hg w2 hbox hb; have n0 := G.bs HB hb; have n1 := G.m (hbox); have n2 := G.m (cacZ : w.heap.size ≤ aH); have n3 := G.m (cacZ : w.heap.size ≤ aH); clear HB; revert n0 n1 n2 n3; intro HB aB eH eI; clear hb hbox hg) | ((with_reducible refine G.h 2 rfl ?_); refine G.be 2 #[.int .i64 0, .int .i64 0] 59 ?_; intro aP hg w3 hbox hb; have n0 := G.bb aB hb; have n1 := G.bs HB hb; have n2 := G.m (hbox); have n3 := G.m (cacZ : w.heap.size ≤ aP); have n4 := G.m (cacZ : w.heap.size ≤ aP); have n5 := G.m ((by rw [hg]; exact Nat.ne_of_lt (blk_lt (g := aH) (o := .cells #[.int .i64 ab, .int .i64 ag] 100 (0, 0)) (G.cb aB.out)) : aH ≠ aP)); have n6 := G.m ((by rw [hg]; exact Nat.ne_of_gt (blk_lt (g := aH) (o := .cells #[.int .i64 ab, .int .i64 ag] 100 (0, 0)) (G.cb aB.out)) : aP ≠ aH)); clear aB HB; revert n0 n1 n2 n3 n4 n5 n6; intro aB HB a5 eJ eK b1 b2; clear hb hbox hg) | ((with_reducible refine G.h 3 rfl ?_); refine G.be 3 #[.int .i64 0, .int .i64 0] 59 ?_; intro bf hg w4 hbox hb; have n0 := G.bb aB hb; have n1 := G.bb a5 hb; have n2 := G.bs HB hb; have n3 := G.m (hbox); have n4 := G.m (cacZ : w.heap.size ≤ bf); have n5 := G.m (cacZ : w.heap.size ≤ bf); have n6 := G.m ((by rw [hg]; exact Nat.ne_of_lt (blk_lt (g := aH) (o := .cells #[.int .i64 ab, .int .i64 ag] 100 (0, 0)) (G.cb aB.out)) : aH ≠ bf)); have n7 := G.m ((by rw [hg]; exact Nat.ne_of_gt (blk_lt (g := aH) (o := .cells #[.int .i64 ab, .int .i64 ag] 100 (0, 0)) (G.cb aB.out)) : bf ≠ aH)); have n8 := G.m ((by rw [hg]; exact Nat.ne_of_lt (blk_lt (g := aP) (o := .cells #[.int .i64 0, .int .i64 0] 59 (0, 0)) (G.cb a5.out)) : aP ≠ bf)); have n9 := G.m ((by rw [hg]; exact Nat.ne_of_gt (blk_lt (g := aP) (o := .cells #[.int .i64 0, .int .i64 0] 59 (0, 0)) (G.cb a5.out)) : bf ≠ aP)); clear aB a5 HB; revert n0 n1 n2 n3 n4 n5 n6 n7 n8 n9; intro aB a5 HB dw eL eM b3 b4 bc b5; clear hb hbox hg; have e4 := b1.out; have e5 := b2.out; have dI := b3.out; have dJ := b4.out; have ⟨ew, ex, ey, ez⟩ := G.d2 (w := w4) aB; have dK := b5.out; have dL := bc.out; have ⟨b6, b7, b8, b9⟩ := G.d2 (w := w4) dw; have ⟨bK, bL, bM, bN⟩ := G.d2 (w := w4) a5))
 refine bodyPost_ret (results_cell_row rfl _ _ aP 59 #[.int .i64 ab, .int .i64 ag] (0, 0) _ rfl (by (with_reducible repeat (first | refine blk_drewN ?_ _ | refine blk_drew ?_ | refine blk_alloc ?_ _)); refine blk_put (cs := #[.int .i64 ab, .int .i64 0]) ?_ 1 _ rfl; (with_reducible repeat (first | refine blk_drewN ?_ _ | refine blk_drew ?_ | refine blk_alloc ?_ _)); refine blk_put (cs := #[.int .i64 0, .int .i64 0]) ?_ 0 _ rfl; (with_reducible repeat (first | refine blk_drewN ?_ _ | refine blk_drew ?_ | refine blk_alloc ?_ _)); refine blk_far ?_ bc.out _; (with_reducible repeat (first | refine blk_drewN ?_ _ | refine blk_drew ?_ | refine blk_alloc ?_ _)); refine blk_far ?_ bc.out _; (with_reducible repeat (first | refine blk_drewN ?_ _ | refine blk_drew ?_ | refine blk_alloc ?_ _)); exact a5.out) Try.underlying59 rfl (by kernel_rfl)) rfl ?_; exact ⟨cac0, G.cB HB.out⟩

/-! ### laws_toTieS: function 48 -/
def laws_toTieS.l0 : Nat → List (S100) → List (S59) → Int → Option ((List (S59)))
 | 0, _, _, _ => none
 | k + 1, x0, x3, x4 => if x4 < (x0.length : Int) then (if 0 ≤ x4 then ((laws_toTie.f ((rd_T100 x0 x4).f0) ((rd_T100 x0 x4).f1)).bind fun cv => (if x4 < (x3.length : Int) then (laws_toTieS.l0 k x0 (x3.set (x4 : Int).toNat (⟨cv.1, cv.2⟩ : S59)) (wrap64 (x4 + 1))) else (none))) else (none)) else (some x3)
def laws_toTieS.f (k : Nat) (l0 : List (S100)) : Option ((List (S59))) := if 0 ≤ (l0.length : Int) then (if ((l0.length : Int) : Int).toNat ≤ 17592186044416 then (laws_toTieS.l0 k l0 (List.replicate ((l0.length : Int) : Int).toNat z59) 0) else (none)) else (none)
theorem laws_toTieS.mono_l : ∀ k, (∀ y0 y1 y2, LeO (laws_toTieS.l0 k y0 y1 y2) (laws_toTieS.l0 (k + 1) y0 y1 y2))
 | 0 => fun _ _ _ r h => by simp [laws_toTieS.l0] at h
 | k + 1 => by
  have aI := laws_toTieS.mono_l k
  ·intro y0 y1 y2; unfold laws_toTieS.l0
   repeat' first
   | (with_reducible exact aI _ _ _)
   | (with_reducible exact LeO.refl _)
   | (with_reducible exact LeO.none _)
   | (with_reducible refine LeO.ite ?_ ?_)
   | (with_reducible refine LeO.bind ?_ (fun _ => ?_))
   | exact aI _ _ _
   | exact LeO.none _
   | refine LeO.ite ?_ ?_
   | refine LeO.bind ?_ (fun _ => ?_)
theorem laws_toTieS.mono : ∀ a0 k, LeO (laws_toTieS.f k a0) (laws_toTieS.f (k + 1) a0) := by
 intro a0 k; have aI := laws_toTieS.mono_l k; unfold laws_toTieS.f
 repeat' first | (with_reducible first | exact aI _ _ _ | exact LeO.refl _ | exact LeO.none _ | refine LeO.ite ?_ ?_ | refine LeO.bind ?_ (fun _ => ?_)) | exact aI _ _ _ | exact LeO.none _ | refine LeO.ite ?_ ?_ | refine LeO.bind ?_ (fun _ => ?_)
set_option maxHeartbeats 8000000 in
set_option maxRecDepth 100000 in
theorem laws_toTieS.calls (k : Nat) (A0 : Option Addr) (c0 : Nat) (l0 : List (S100)) (r : List (S59)) (w : World) (a_ : Kd.C k100 w A0 l0.length l0) (ba : l0.length ≤ c0) (h : laws_toTieS.f k l0 = some r) :
  Calls Try.prog 48 #[.slice A0 l0.length c0] w fun e w' => ∃ dC : Value, e = .returned (dC) ∧ Kd.R k59 59 w' w.heap.size (fun _ => True) dC r ∧ Below w.heap.size w w' := by
 have dv := Try.underlying100; have ci := Try.underlying59; have bE := G.m a_; have c_ := G.m ba; clear a_ ba; have HB := G.m (Below.refl w.heap.size w); have H : (if 0 ≤ (l0.length : Int) then (if ((l0.length : Int) : Int).toNat ≤ 17592186044416 then (laws_toTieS.l0 k l0 (List.replicate ((l0.length : Int) : Int).toNat z59) 0) else (none)) else (none)) = some r := h; clear h
 by_cases c2 : 0 ≤ (l0.length : Int)
 ·rw [if_pos c2] at H; have dM := eq_true c2; have dN : decide (0 ≤ (l0.length : Int)) = true := decide_eq_true c2; clear c2
  by_cases c3 : ((l0.length : Int) : Int).toNat ≤ 17592186044416
  ·rw [if_pos c3] at H; have aE := eq_true c3; have aQ : decide (((l0.length : Int) : Int).toNat ≤ 17592186044416) = true := decide_eq_true c3; clear c3; obtain ⟨da, bA⟩ : ∃ y_ : List (S59), y_ = (List.replicate ((l0.length : Int) : Int).toNat z59) := ⟨_, rfl⟩; replace H : (laws_toTieS.l0 k l0 da 0) = some r := by first | (rw [bA]; with_reducible exact H) | (have bI := (Option.bind_some _ _).symm.trans H; rw [bA]; with_reducible exact bI) | (have bI := (Option.bind_some _ _).symm.trans H; with_reducible exact bI) | with_reducible exact H | (rw [bA]; exact H) | exact H
   have cw := G.m bA; clear bA; have H' := G.m H; clear H
   go_enter Try.func48, Try.ntmps48
   go_wp2_with (first | ((with_reducible refine G.h 7 rfl ?_); refine Kd.R_make k59 _ 59 rfl (N := 7) rfl 29 _ _ rfl (l0.length : Int) rfl rfl Try.underlying29 (.agg #[(.int .i64 0), (.int .i64 0)]) 16 info59 rfl (by decide) (by omega) z59 (ok := fun _ => True) (okp := fun _ => True) (k59_mkM _ _ _ z59 ) (fun _ hk => hk) trivial (of_decide_eq_true (G.asm)) (Nat.le_trans (Nat.mul_le_mul_right _ (of_decide_eq_true (G.asm) : (l0.length : Int).toNat ≤ 17592186044416)) (by omega)) (Below.refl _ _) (Nat.le_refl _) ?_; intro dO w4 b_ hb hg_ hnew_; clear hg_ hnew_; (first | rw [← cw.out] at b_ | (simp only [Int.reduceToNat] at b_; rw [← cw.out] at b_)); have n0 := G.m (Kd.R_lower b_ (below_size (G.cB HB.out))); have n1 := G.bs HB hb; clear HB; revert n0 n1; intro dx HB; clear hb b_))
   go_loopg [4] k (fun kq v4 w' => ∃ (ax : List (S59)) (ae : Int), v4 = .int .i64 ae ∧ Aside0 (laws_toTieS.l0 kq l0 ax ae = some r) ∧ Aside0 (kq ≤ k) ∧ Aside0 (Kd.R k59 59 w' w.heap.size (fun _ => True) dO ax) ∧ Aside0 (Below w.heap.size w w'))
   case atStart => exact ⟨(da), (0), (cac1), H', ⟨Nat.le_refl _⟩, ⟨G.cR dx.out⟩, ⟨G.cB HB.out⟩⟩
   case round =>
    clear H'; (try clear dM dN aE aQ); obtain ⟨ax, ae, rfl, HA, bF, aN, HB⟩ := hrel; cases gk with
    | zero => exact absurd HA.out (by simp [laws_toTieS.l0])
    | succ k1 =>
     have H := HA.out; clear HA; simp only [laws_toTieS.l0] at H
     by_cases c6 : ae < (l0.length : Int)
     ·rw [if_pos c6] at H; have cj : decide (ae < (l0.length : Int)) = true := decide_eq_true c6; clear c6
      by_cases c7 : 0 ≤ ae
      ·rw [if_pos c7] at H; have db : decide (0 ≤ ae) = true := decide_eq_true c7; clear c7; obtain ⟨⟨bk, bl⟩, A8, H⟩ := G.bi H; replace H : (if ae < (ax.length : Int) then (laws_toTieS.l0 k1 l0 (ax.set (ae : Int).toNat (⟨bk, bl⟩ : S59)) (wrap64 (ae + 1))) else (none)) = some r := H
       by_cases c9 : ae < (ax.length : Int)
       ·rw [if_pos c9] at H; have e6 : decide (ae < (ax.length : Int)) = true := decide_eq_true c9; clear c9; obtain ⟨ck, bB⟩ : ∃ y_ : List (S59), y_ = (ax.set (ae : Int).toNat (⟨bk, bl⟩ : S59)) := ⟨_, rfl⟩; replace H : (laws_toTieS.l0 k1 l0 ck (wrap64 (ae + 1))) = some r := by first | (rw [bB]; with_reducible exact H) | (have bI := (Option.bind_some _ _).symm.trans H; rw [bB]; with_reducible exact bI) | (have bI := (Option.bind_some _ _).symm.trans H; with_reducible exact bI) | with_reducible exact H | (rw [bB]; exact H) | exact H
        have dy := G.m bB; clear bB; have H' := G.m H; clear H; have cl : 0 ≤ (ae : Int) := of_decide_eq_true (G.asm); have cm : ae < (l0.length : Int) := of_decide_eq_true (G.asm); obtain ⟨eN, dP, bO, bP⟩ := at_T100 bE.out ae cl cm; cases dP; replace bO := G.hx HB bO; replace bP := G.hx HB bP; replace cl := eq_true cl; replace cm := eq_true cm
        go_wp2_with (first | ((with_reducible refine G.f 87 rfl ?_); refine G.gL 20 Try.func87 #[.agg #[.int .i64 ((rd_T100 l0 ae).f0), .int .i64 ((rd_T100 l0 ae).f1)]] ?_; (with_reducible refine (laws_toTie.calls ((rd_T100 l0 ae).f0) ((rd_T100 l0 ae).f1) bk bl _ A8.out).mono ?_); rintro e aR ⟨rfl, hb⟩; refine ⟨_, rfl, ?_⟩; have n0 := G.rb aN hb; have n1 := G.bs HB hb; clear aN HB; revert n0 n1; intro aN HB; (try clear hb); have dc : 0 ≤ (ae : Int) := of_decide_eq_true (G.asm); have dd : (ae : Int) < ((ax.length : Int) : Int) := of_decide_eq_true (G.asm); obtain ⟨a6, de, df, dg, dQ, e7, dh⟩ := Kd.R_form aN.out (by omega); (first | cases df | (injection df with ea_ en_ ec_; (first | subst ea_ | (injection ea_ with ea_; subst ea_)); subst ec_; clear en_)); have di := G.m dg; have e8 := G.m dh; clear dg dQ dh; obtain ⟨e9, dz, dj, bS, bT⟩ := Kd.R_elem aN.out z59 (ae : Int) dc dd; obtain rfl := k59_openM dj; have eA : aR.cell? ⟨a6, (ae : Int).toNat * 2, none⟩ = some (.int .i64 ((rd_T59 ax ae).f0)) := bS 0 _ rfl; have eB : aR.cell? ⟨a6, (ae : Int).toNat * 2 + 1, none⟩ = some (.int .i64 ((rd_T59 ax ae).f1)) := bS 1 _ rfl; have eC : aR.frozen? ⟨a6, (ae : Int).toNat * 2, none⟩ = false := bT 0; have eD : aR.frozen? ⟨a6, (ae : Int).toNat * 2 + 1, none⟩ = false := bT 1; clear dz bS bT; (try clear dj); replace dc := eq_true dc; replace dd := eq_true dd; have dk := G.m (show Kd.R k59 59 aR w.heap.size (fun _ => True) (.slice (some ⟨a6, 0, none⟩) ax.length de) ax from (G.cR aN.out)); obtain ⟨fa, cx, dl, bH, bU⟩ := Kd.R_elem dk.out z59 (ae : Int) (of_decide_eq_true (G.asm)) (by have h_ : (ae : Int) < ((ax.length : Int) : Int) := of_decide_eq_true (G.asm); first | exact h_ | (have e_ := (Kd.R_reads' aN.out).1; omega) | simpa using h_); obtain rfl := k59_openM dl; have cn := Kd.R_seg dk.out (ae : Int) (of_decide_eq_true (G.asm)) (by have h_ : (ae : Int) < ((ax.length : Int) : Int) := of_decide_eq_true (G.asm); first | exact h_ | (have e_ := (Kd.R_reads' aN.out).1; omega) | simpa using h_) (seg := [.int .i64 bk, .int .i64 bl]) (j := 0) cx bH (show 2 ≤ 2 from by decide) (x' := (⟨bk, bl⟩ : S59)) (k59_mkM _ _ _ (⟨bk, bl⟩ : S59) ) (fun _ hk => hk); have dn := bH 0 _ rfl; (try simp only [show (k59).sz = 2 from rfl, Nat.mul_one, Nat.add_zero] at dn); have dp := bU 0; (try simp only [show (k59).sz = 2 from rfl, Nat.mul_one, Nat.add_zero] at dp); have dq := bH 1 _ rfl; (try simp only [show (k59).sz = 2 from rfl, Nat.mul_one, Nat.add_zero] at dq); have dr := bU 1; (try simp only [show (k59).sz = 2 from rfl, Nat.mul_one, Nat.add_zero] at dr); clear cx bH bU; (try clear dl)) | ((with_reducible refine gate_store (t := 59) (p := 21) rfl ?_); refine store_event (t := 59) (p := 21) (v := ?vo_w13) (w1 := ((aR.setCell ⟨a6, (ae : Int).toNat * 2, none⟩ (.int .i64 bk)).setCell ⟨a6, (ae : Int).toNat * 2 + 1, none⟩ (.int .i64 bl))) ?hg ?ho ?hn ?hr ?_; (case ho => rfl); (case hg => rfl); (case hn => rfl); (case hr => first | (go_simp; done) | (go_simp; rfl)); intro bQ hw; have hg : aR.grownBy bQ (some a6) := (by rw [hw]; exact cn.2); have hp_ : Kd.R k59 59 bQ w.heap.size (fun _ => True) (.slice (some ⟨a6, 0, none⟩) ax.length de) ck := (by rw [hw, dy.out]; exact cn.1); clear cn; have n0 := G.m (hp_); have n1 := G.m ((by rw [hw]; exact below_set (below_set (HB.out) di.out) di.out : Below w.heap.size w bQ)); clear aN HB; revert n0 n1; intro aN HB; clear hg hw hp_))
        go_roundg k1
        case measure => have := bF.out; omega
        case rel => exact ⟨(ck), (wrap64 (ae + 1)), (cac1), H', ⟨by have := bF.out; omega⟩, ⟨G.cR aN.out⟩, ⟨G.cB HB.out⟩⟩
       ·rw [if_neg c9] at H; exact absurd H (by simp)
      ·rw [if_neg c7] at H; exact absurd H (by simp)
     ·rw [if_neg c6] at H; have cj : decide (ae < (l0.length : Int)) = false := decide_eq_false c6; clear c6; obtain rfl := Option.some.inj H
      go_wp2
      go_ret
      exact ⟨_, by first | rfl | (simp [errW_none, errW_some] <;> rfl) | (simp [*, errW_none, errW_some] <;> rfl), G.cR aN.out, G.cB HB.out⟩
  ·rw [if_neg c3] at H; exact absurd H (by simp)
 ·rw [if_neg c2] at H; exact absurd H (by simp)

/-! ### laws_toNet: function 17 -/
def laws_toNet.f (k : Nat) (ab : Int) (ac : List (S100)) : Option (Int × (List (S59))) := (laws_toTieS.f k ac).bind fun a7 => (some (ab, a7))
theorem laws_toNet.mono : ∀ a0 a1 k, LeO (laws_toNet.f k a0 a1) (laws_toNet.f (k + 1) a0 a1) := by
 intro a0 a1 k; unfold laws_toNet.f
 repeat' first | (with_reducible first | exact laws_toTieS.mono _ _ | exact LeO.refl _ | exact LeO.none _ | refine LeO.ite ?_ ?_ | refine LeO.bind ?_ (fun _ => ?_)) | exact laws_toTieS.mono _ _ | exact LeO.none _ | refine LeO.ite ?_ ?_ | refine LeO.bind ?_ (fun _ => ?_)
set_option maxHeartbeats 8000000 in
set_option maxRecDepth 100000 in
theorem laws_toNet.calls (k : Nat) (ab : Int) (ai : Option Addr) (aj : Nat) (ac : List (S100)) (r1 : Int) (r2 : List (S59)) (w : World) (aS : Kd.C k100 w ai ac.length ac) (aT : ac.length ≤ aj) (h : laws_toNet.f k ab ac = some (r1, r2)) :
  Calls Try.prog 17 #[.agg #[.int .i64 ab, .slice ai ac.length aj]] w fun e w' => ∃ dD : Value, e = .returned (.agg #[.int .i64 r1, dD]) ∧ Kd.R k59 59 w' w.heap.size (fun _ => True) dD r2 ∧ Below w.heap.size w w' := by
 have dH := Try.underlying24; have dR := Try.underlying31; have aZ := G.m aS; have a4 := G.m aT; clear aS aT; have HB := G.m (Below.refl w.heap.size w); have H : ((laws_toTieS.f k ac).bind fun a7 => (some (ab, a7))) = some (r1, r2) := h; clear h; obtain ⟨a7, A2, H⟩ := G.bi H; replace H : (some (ab, a7)) = some (r1, r2) := H; simp only [Option.some.injEq, Prod.mk.injEq] at H; obtain ⟨rfl, rfl⟩ := H
 go_enter Try.func17, Try.ntmps17
 go_wp2_with (first | ((with_reducible refine G.h 1 rfl ?_); refine G.be 1 #[.int .i64 ab, .slice ai ac.length aj] 24 ?_; intro aO hg w3 hbox hb; have n0 := G.bs HB hb; have n1 := G.m (hbox); have n2 := G.m (cacZ : w.heap.size ≤ aO); have n3 := G.m (cacZ : w.heap.size ≤ aO); clear HB; revert n0 n1 n2 n3; intro HB ay eO eP; clear hb hbox hg) | ((with_reducible refine G.h 2 rfl ?_); refine G.be 2 #[.int .i64 0, .slice none 0 0] 31 ?_; intro az hg w4 hbox hb; have n0 := G.bb ay hb; have n1 := G.bs HB hb; have n2 := G.m (hbox); have n3 := G.m (cacZ : w.heap.size ≤ az); have n4 := G.m (cacZ : w.heap.size ≤ az); have n5 := G.m (cac6 : aO ≠ az); have n6 := G.m (cac7 : az ≠ aO); clear ay HB; revert n0 n1 n2 n3 n4 n5 n6; intro ay HB aC eQ eR ca cd; clear hb hbox hg) | ((with_reducible refine G.h 3 rfl ?_); refine G.be 3 #[.int .i64 0, .slice none 0 0] 31 ?_; intro aU hg w5 hbox hb; have n0 := G.bb ay hb; have n1 := G.bb aC hb; have n2 := G.bs HB hb; have n3 := G.m (hbox); have n4 := G.m (cacZ : w.heap.size ≤ aU); have n5 := G.m (cacZ : w.heap.size ≤ aU); have n6 := G.m (cac6 : aO ≠ aU); have n7 := G.m (cac7 : aU ≠ aO); have n8 := G.m ((by rw [hg]; exact Nat.ne_of_lt (blk_lt (g := az) (o := .cells #[.int .i64 0, .slice none 0 0] 31 (0, 0)) (G.cb aC.out)) : az ≠ aU)); have n9 := G.m ((by rw [hg]; exact Nat.ne_of_gt (blk_lt (g := az) (o := .cells #[.int .i64 0, .slice none 0 0] 31 (0, 0)) (G.cb aC.out)) : aU ≠ az)); clear ay aC HB; revert n0 n1 n2 n3 n4 n5 n6 n7 n8 n9; intro ay aC HB bh eS eT bG ce bd cf; clear hb hbox hg; have dI := ca.out; have dJ := cd.out; have dS := bG.out; have dT := ce.out; have ⟨bW, bX, bY, bZ⟩ := G.d2 (w := w5) ay; have fb := cf.out; have fc := bd.out; have ⟨bK, bL, bM, bN⟩ := G.d2 (w := w5) bh) | ((with_reducible refine G.f 48 rfl ?_); refine G.gL 9 Try.func48 #[.slice ai ac.length aj] ?_; (with_reducible refine (laws_toTieS.calls k _ _ ac a7 _ ?side1 ?side2 A2.out).mono ?_); (case side1 => exact Kd.C_below aZ.out (G.cB HB.out)); (case side2 => exact a4.out); rintro e aR ⟨fd, rfl, dE, hb⟩; refine ⟨_, rfl, ?_⟩; have n0 := G.m (Kd.R_lower dE (below_size (G.cB HB.out))); have n1 := G.m (blk_below (g := aO) (o := .cells #[.int .i64 ab, .slice ai ac.length aj] 24 (0, 0)) (by (with_reducible repeat (first | refine blk_drewN ?_ _ | refine blk_drew ?_ | refine blk_alloc ?_ _)); refine blk_far ?_ bG.out _; (with_reducible repeat (first | refine blk_drewN ?_ _ | refine blk_drew ?_ | refine blk_alloc ?_ _)); exact ay.out) hb); have n2 := G.m (blk_below (g := az) (o := .cells #[.int .i64 0, .slice none 0 0] 31 (0, 0)) (by (with_reducible repeat (first | refine blk_drewN ?_ _ | refine blk_drew ?_ | refine blk_alloc ?_ _)); refine blk_far ?_ bd.out _; (with_reducible repeat (first | refine blk_drewN ?_ _ | refine blk_drew ?_ | refine blk_alloc ?_ _)); exact aC.out) hb); have n3 := G.m (blk_below (g := aU) (o := .cells #[.int .i64 ab, .slice none 0 0] 31 (0, 0)) (by (with_reducible repeat (first | refine blk_drewN ?_ _ | refine blk_drew ?_ | refine blk_alloc ?_ _)); refine blk_put (cs := #[.int .i64 0, .slice none 0 0]) ?_ 0 _ rfl; (with_reducible repeat (first | refine blk_drewN ?_ _ | refine blk_drew ?_ | refine blk_alloc ?_ _)); exact bh.out) hb); have n4 := G.bs HB hb; clear ay aC bh HB; revert n0 n1 n2 n3 n4; intro cy ay aC bh HB; (try clear hb dE); obtain ⟨co, cp, dU⟩ := Kd.R_slice cy.out; subst dU; have ⟨cO, cP, cQ, cS⟩ := G.d2 (w := aR) bh; have ⟨cT, cU, cW, cX⟩ := G.d2 (w := aR) aC))
 refine bodyPost_ret (results_cell_row rfl _ _ az 31 #[.int .i64 ab, .slice co a7.length cp] (0, 0) _ rfl (by (with_reducible repeat (first | refine blk_drewN ?_ _ | refine blk_drew ?_ | refine blk_alloc ?_ _)); refine blk_put (cs := #[.int .i64 ab, .slice none 0 0]) ?_ 1 _ rfl; (with_reducible repeat (first | refine blk_drewN ?_ _ | refine blk_drew ?_ | refine blk_alloc ?_ _)); refine blk_put (cs := #[.int .i64 0, .slice none 0 0]) ?_ 0 _ rfl; (with_reducible repeat (first | refine blk_drewN ?_ _ | refine blk_drew ?_ | refine blk_alloc ?_ _)); refine blk_far ?_ bd.out _; (with_reducible repeat (first | refine blk_drewN ?_ _ | refine blk_drew ?_ | refine blk_alloc ?_ _)); exact aC.out) Try.underlying31 rfl (by kernel_rfl)) rfl ?_; exact ⟨_, by first | rfl | (simp [errW_none, errW_some] <;> rfl) | (simp [*, errW_none, errW_some] <;> rfl), by (with_reducible repeat (first | apply Kd.R_alloc | apply Kd.R_drewN | apply Kd.R_drew)); exact Kd.R_mono (Kd.R_far (p := ⟨az, 1, none⟩) (Kd.R_far (p := ⟨az, 0, none⟩) (Kd.R_far (p := ⟨aU, 1, none⟩) (Kd.R_types (Kd.R_types cy.out bh.out (by decide)) aC.out (by decide)) (fun _ hk => hk.1.2) (.slice co a7.length cp)) (fun _ hk => hk.2) (.int .i64 ab)) (fun _ hk => hk.2) (.slice co a7.length cp)) (fun _ hk => trivial), G.cB HB.out⟩

/-! ### laws_eqTie: function 91 -/
def laws_eqTie.f (ab : Int) (ag : Int) (ah : Int) (aG : Int) : Option (Bool) := if ab = ah then (if ag = aG then (some true) else (some false)) else (some false)
set_option maxHeartbeats 8000000 in
set_option maxRecDepth 100000 in
theorem laws_eqTie.calls (ab : Int) (ag : Int) (ah : Int) (aG : Int) (r : Bool) (w : World) (h : laws_eqTie.f ab ag ah aG = some r) :
  Calls Try.prog 91 #[.agg #[.int .i64 ab, .int .i64 ag], .agg #[.int .i64 ah, .int .i64 aG]] w fun e w' => e = .returned (.bool r) ∧ Below w.heap.size w w' := by
 have ci := Try.underlying59; have HB := G.m (Below.refl w.heap.size w); have H : (if ab = ah then (if ag = aG then (some true) else (some false)) else (some false)) = some r := h; clear h
 by_cases c3 : ab = ah
 ·rw [if_pos c3] at H; have aE : (ab == ah) = true := beq_iff_eq.mpr c3; have aQ : (ab != ah) = false := bne_eq_false_iff_eq.mpr c3; clear c3
  by_cases c4 : ag = aG
  ·rw [if_pos c4] at H; have bj : (ag == aG) = true := beq_iff_eq.mpr c4; have dV : (ag != aG) = false := bne_eq_false_iff_eq.mpr c4; clear c4; obtain rfl := Option.some.inj H
   go_enter Try.func91, Try.ntmps91
   go_wp2_with (first | ((with_reducible refine G.h 2 rfl ?_); refine G.be 2 #[.int .i64 ab, .int .i64 ag] 59 ?_; intro al hg w5 hbox hb; have n0 := G.bs HB hb; have n1 := G.m (hbox); have n2 := G.m (cacZ : w.heap.size ≤ al); have n3 := G.m (cacZ : w.heap.size ≤ al); clear HB; revert n0 n1 n2 n3; intro HB am cz cA; clear hb hbox hg) | ((with_reducible refine G.h 3 rfl ?_); refine G.be 3 #[.int .i64 ah, .int .i64 aG] 59 ?_; intro ao hg w6 hbox hb; have n0 := G.bb am hb; have n1 := G.bs HB hb; have n2 := G.m (hbox); have n3 := G.m (cacZ : w.heap.size ≤ ao); have n4 := G.m (cacZ : w.heap.size ≤ ao); have n5 := G.m (cac4 : al ≠ ao); have n6 := G.m (cac5 : ao ≠ al); clear am HB; revert n0 n1 n2 n3 n4 n5 n6; intro am HB bC cD cE aJ aK; clear hb hbox hg; have dS := aJ.out; have dT := aK.out; have ⟨bW, bX, bY, bZ⟩ := G.d2 (w := w6) am; have ⟨b6, b7, b8, b9⟩ := G.d2 (w := w6) bC))
   go_ret
   exact ⟨cac0, G.cB HB.out⟩
  ·rw [if_neg c4] at H; have bj : (ag == aG) = false := beq_eq_false_iff_ne.mpr c4; have dV : (ag != aG) = true := bne_iff_ne.mpr c4; obtain rfl := Option.some.inj H
   go_enter Try.func91, Try.ntmps91
   go_wp2_with (first | ((with_reducible refine G.h 2 rfl ?_); refine G.be 2 #[.int .i64 ab, .int .i64 ag] 59 ?_; intro al hg eE hbox hb; have n0 := G.bs HB hb; have n1 := G.m (hbox); have n2 := G.m (cacZ : w.heap.size ≤ al); have n3 := G.m (cacZ : w.heap.size ≤ al); clear HB; revert n0 n1 n2 n3; intro HB am cz cA; clear hb hbox hg) | ((with_reducible refine G.h 3 rfl ?_); refine G.be 3 #[.int .i64 ah, .int .i64 aG] 59 ?_; intro ao hg aR hbox hb; have n0 := G.bb am hb; have n1 := G.bs HB hb; have n2 := G.m (hbox); have n3 := G.m (cacZ : w.heap.size ≤ ao); have n4 := G.m (cacZ : w.heap.size ≤ ao); have n5 := G.m (cac4 : al ≠ ao); have n6 := G.m (cac5 : ao ≠ al); clear am HB; revert n0 n1 n2 n3 n4 n5 n6; intro am HB bC cD cE aJ aK; clear hb hbox hg; have eU := aJ.out; have eV := aK.out; have ⟨cO, cP, cQ, cS⟩ := G.d2 (w := aR) am; have ⟨cT, cU, cW, cX⟩ := G.d2 (w := aR) bC))
   go_ret
   exact ⟨cac0, G.cB HB.out⟩
 ·rw [if_neg c3] at H; have aE : (ab == ah) = false := beq_eq_false_iff_ne.mpr c3; have aQ : (ab != ah) = true := bne_iff_ne.mpr c3; obtain rfl := Option.some.inj H
  go_enter Try.func91, Try.ntmps91
  go_wp2_with (first | ((with_reducible refine G.h 2 rfl ?_); refine G.be 2 #[.int .i64 ab, .int .i64 ag] 59 ?_; intro al hg fe hbox hb; have n0 := G.bs HB hb; have n1 := G.m (hbox); have n2 := G.m (cacZ : w.heap.size ≤ al); have n3 := G.m (cacZ : w.heap.size ≤ al); clear HB; revert n0 n1 n2 n3; intro HB am cz cA; clear hb hbox hg) | ((with_reducible refine G.h 3 rfl ?_); refine G.be 3 #[.int .i64 ah, .int .i64 aG] 59 ?_; intro ao hg dF hbox hb; have n0 := G.bb am hb; have n1 := G.bs HB hb; have n2 := G.m (hbox); have n3 := G.m (cacZ : w.heap.size ≤ ao); have n4 := G.m (cacZ : w.heap.size ≤ ao); have n5 := G.m (cac4 : al ≠ ao); have n6 := G.m (cac5 : ao ≠ al); clear am HB; revert n0 n1 n2 n3 n4 n5 n6; intro am HB bC cD cE aJ aK; clear hb hbox hg; have eW := aJ.out; have eX := aK.out; have ⟨dY, dZ, d7, d8⟩ := G.d2 (w := dF) am; have ⟨d9, d_, ea, eb⟩ := G.d2 (w := dF) bC))
  go_ret
  exact ⟨cac0, G.cB HB.out⟩

/-! ### laws_eqTieS: function 55 -/
def laws_eqTieS.l0 : Nat → List (S59) → List (S59) → Int → Option (Bool)
 | 0, _, _, _ => none
 | k + 1, x0, x1, x5 => if x5 < (x0.length : Int) then (if 0 ≤ x5 then (if x5 < (x1.length : Int) then ((laws_eqTie.f ((rd_T59 x0 x5).f0) ((rd_T59 x0 x5).f1) ((rd_T59 x1 x5).f0) ((rd_T59 x1 x5).f1)).bind fun bV => (if bV = true then (laws_eqTieS.l0 k x0 x1 (wrap64 (x5 + 1))) else (some false))) else (none)) else (none)) else (some true)
def laws_eqTieS.f (k : Nat) (l0 : List (S59)) (l1 : List (S59)) : Option (Bool) := if (l0.length : Int) = (l1.length : Int) then (laws_eqTieS.l0 k l0 l1 0) else (some false)
theorem laws_eqTieS.mono_l : ∀ k, (∀ y0 y1 y2, LeO (laws_eqTieS.l0 k y0 y1 y2) (laws_eqTieS.l0 (k + 1) y0 y1 y2))
 | 0 => fun _ _ _ r h => by simp [laws_eqTieS.l0] at h
 | k + 1 => by
  have aI := laws_eqTieS.mono_l k
  ·intro y0 y1 y2; unfold laws_eqTieS.l0
   repeat' first
   | (with_reducible exact aI _ _ _)
   | (with_reducible exact LeO.refl _)
   | (with_reducible exact LeO.none _)
   | (with_reducible refine LeO.ite ?_ ?_)
   | (with_reducible refine LeO.bind ?_ (fun _ => ?_))
   | exact aI _ _ _
   | exact LeO.none _
   | refine LeO.ite ?_ ?_
   | refine LeO.bind ?_ (fun _ => ?_)
theorem laws_eqTieS.mono : ∀ a0 a1 k, LeO (laws_eqTieS.f k a0 a1) (laws_eqTieS.f (k + 1) a0 a1) := by
 intro a0 a1 k; have aI := laws_eqTieS.mono_l k; unfold laws_eqTieS.f
 repeat' first | (with_reducible first | exact aI _ _ _ | exact LeO.refl _ | exact LeO.none _ | refine LeO.ite ?_ ?_ | refine LeO.bind ?_ (fun _ => ?_)) | exact aI _ _ _ | exact LeO.none _ | refine LeO.ite ?_ ?_ | refine LeO.bind ?_ (fun _ => ?_)
def laws_eqTieS.T6 : Bool × List (List Nat × List Nat) := (true, [([], []), ([], []), ([0, 1], [0, 1]), ([2], [2]), ([], []), ([], []), ([4, 5], [4, 5]), ([6], [6]), ([3, 7], [3, 7]), ([8], [8])])
def laws_eqTieS.B6 : List Nat := [0, 0, 3, 7, 0, 0, 48, 112, 255, 511]
theorem laws_eqTieS.tab6 : rtab .any (opsOf Try.f55 6) = laws_eqTieS.T6 := by kernel_rfl
theorem laws_eqTieS.bits6 : waitsOk laws_eqTieS.T6.2 laws_eqTieS.B6 = true := by kernel_rfl
set_option maxHeartbeats 8000000 in
set_option maxRecDepth 100000 in
theorem laws_eqTieS.calls (k : Nat) (A0 : Option Addr) (c0 : Nat) (l0 : List (S59)) (A1 : Option Addr) (c1 : Nat) (l1 : List (S59)) (r : Bool) (w : World) (a_ : Kd.C k59 w A0 l0.length l0) (ba : l0.length ≤ c0) (hr1 : Kd.C k59 w A1 l1.length l1) (cg : l1.length ≤ c1) (h : laws_eqTieS.f k l0 l1 = some r) :
  Calls Try.prog 55 #[.slice A0 l0.length c0, .slice A1 l1.length c1] w fun e w' => e = .returned (.bool r) ∧ Below w.heap.size w w' := by
 have ci := Try.underlying59; have bE := G.m a_; have c_ := G.m ba; clear a_ ba; have ch := G.m hr1; have eF := G.m cg; clear hr1 cg; have HB := G.m (Below.refl w.heap.size w); have H : (if (l0.length : Int) = (l1.length : Int) then (laws_eqTieS.l0 k l0 l1 0) else (some false)) = some r := h; clear h
 by_cases c3 : (l0.length : Int) = (l1.length : Int)
 ·rw [if_pos c3] at H; have aE : ((l0.length : Int) == (l1.length : Int)) = true := beq_iff_eq.mpr c3; have aQ : ((l0.length : Int) != (l1.length : Int)) = false := bne_eq_false_iff_eq.mpr c3; have bJ : (l0.length == l1.length) = true := by first | simpa using c3 | (simp at c3 ⊢; omega)
  clear c3; have H' := G.m H; clear H
  go_enter Try.func55, Try.ntmps55
  go_wp2
  go_loopg [5] k (fun kq v5 w' => ∃ (aa : Int), v5 = .int .i64 aa ∧ Aside0 (laws_eqTieS.l0 kq l0 l1 aa = some r) ∧ Aside0 (kq ≤ k) ∧ Aside0 (Below w.heap.size w w'))
  case atStart => exact ⟨(0), (cac1), H', ⟨Nat.le_refl _⟩, ⟨G.cB HB.out⟩⟩
  case round =>
   clear H'; (try clear aE aQ bJ); obtain ⟨aa, rfl, HA, bF, HB⟩ := hrel; cases gk with
   | zero => exact absurd HA.out (by simp [laws_eqTieS.l0])
   | succ k1 =>
    have H := HA.out; clear HA; simp only [laws_eqTieS.l0] at H
    by_cases c4 : aa < (l0.length : Int)
    ·rw [if_pos c4] at H; have bj : decide (aa < (l0.length : Int)) = true := decide_eq_true c4; clear c4
     by_cases c5 : 0 ≤ aa
     ·rw [if_pos c5] at H; have dW : decide (0 ≤ aa) = true := decide_eq_true c5; clear c5
      by_cases c6 : aa < (l1.length : Int)
      ·rw [if_pos c6] at H; have cj : decide (aa < (l1.length : Int)) = true := decide_eq_true c6; clear c6; obtain ⟨bV, A7, H⟩ := G.bi H; replace H : (if bV = true then (laws_eqTieS.l0 k1 l0 l1 (wrap64 (aa + 1))) else (some false)) = some r := H
       by_cases c8 : bV = true
       ·subst c8; have H1 : (laws_eqTieS.l0 k1 l0 l1 (wrap64 (aa + 1))) = some r := by rw [if_pos rfl] at H; exact H
        clear H; have H := H1; clear H1; have H' := G.m H; clear H; try go_wp2
        have n0 := G.m (below_drew1 HB.out); clear HB; revert n0; intro HB; have bm : 0 ≤ (aa : Int) := of_decide_eq_true (G.asm); have bn : aa < (l0.length : Int) := of_decide_eq_true (G.asm); obtain ⟨a8, cq, aq, au⟩ := at_T59 bE.out aa bm bn; have aV := au; have aW := aq; cases cq; replace aq := G.hx HB aq; replace au := G.hx HB au; replace bm := eq_true bm; replace bn := eq_true bn; have bo : 0 ≤ (aa : Int) := of_decide_eq_true (G.asm); have bp : aa < (l1.length : Int) := of_decide_eq_true (G.asm); obtain ⟨a9, cr, av, aw⟩ := at_T59 ch.out aa bo bp; have aX := aw; have aY := av; cases cr; replace av := G.hx HB av; replace aw := G.hx HB aw; replace bo := eq_true bo; replace bp := eq_true bp; refine G.st 10 (S := fun w' => w'.cell? (a8.add ((aa).toNat * 2)) = some (.int .i64 ((rd_T59 l0 aa).f0)) ∧ w'.cell? ⟨(a8.add ((aa).toNat * 2)).block, (a8.add ((aa).toNat * 2)).off + 1, none⟩ = some (.int .i64 ((rd_T59 l0 aa).f1)) ∧ w'.cell? (a9.add ((aa).toNat * 2)) = some (.int .i64 ((rd_T59 l1 aa).f0)) ∧ w'.cell? ⟨(a9.add ((aa).toNat * 2)).block, (a9.add ((aa).toNat * 2)).off + 1, none⟩ = some (.int .i64 ((rd_T59 l1 aa).f1))) [] ⟨(G.hx HB aW), (G.hx HB aV), (G.hx HB aY), (G.hx HB aX)⟩ laws_eqTieS.tab6 laws_eqTieS.bits6 (fun hHeld HT_ HW_ => ?_); generalize wr.drew = w9 at HB aq au av aw hHeld ⊢; refine G.pu 0 17 1 ?_; refine G.pu 1 18 3 ?_; refine G.pu 2 19 7 ?_; refine G.pu 4 21 23 ?_; refine G.pu 5 22 55 ?_; refine G.pu 6 23 119 ?_; refine G.ta4 3 20 127 ?_; refine G.ta4 7 24 255 ?_; refine G.on 8 25 511 (fun K hK => ?_); refine G.gs Try.func91 #[.agg #[.int .i64 ((rd_T59 l0 aa).f0), .int .i64 ((rd_T59 l0 aa).f1)], .agg #[.int .i64 ((rd_T59 l1 aa).f0), .int .i64 ((rd_T59 l1 aa).f1)]] ?_; with_reducible refine (laws_eqTie.calls ((rd_T59 l0 aa).f0) ((rd_T59 l0 aa).f1) ((rd_T59 l1 aa).f0) ((rd_T59 l1 aa).f1) true _ A7.out).mono ?_
        rintro e eE ⟨rfl, hb⟩; refine ⟨_, rfl, ?_⟩; have n0 := G.bs HB hb; clear HB; revert n0; intro HB; (try clear hb); refine hK.out _ _ ⟨(G.hx HB aW), (G.hx HB aV), (G.hx HB aY), (G.hx HB aX)⟩ (fun hHeld => ?_); clear hK K; refine G.no 25 ?_; refine G.pu 9 26 1023 ?_; refine done_ (done_of HT_.out (by kernel_rfl)) ?_; try go_wp2
        go_roundg k1
        case measure => have := bF.out; omega
        case rel => exact ⟨(wrap64 (aa + 1)), (cac1), H', ⟨by have := bF.out; omega⟩, ⟨G.cB HB.out⟩⟩
       ·replace c8 := Bool.eq_false_iff.mpr c8; subst c8; have H1 : (some false) = some r := by rw [if_neg (show ¬ (false = true) by decide)] at H; exact H
        clear H; have H := H1; clear H1; obtain rfl := Option.some.inj H; try go_wp2
        have n0 := G.m (below_drew1 HB.out); clear HB; revert n0; intro HB; have bm : 0 ≤ (aa : Int) := of_decide_eq_true (G.asm); have bn : aa < (l0.length : Int) := of_decide_eq_true (G.asm); obtain ⟨a8, cq, aq, au⟩ := at_T59 bE.out aa bm bn; have aV := au; have aW := aq; cases cq; replace aq := G.hx HB aq; replace au := G.hx HB au; replace bm := eq_true bm; replace bn := eq_true bn; have bo : 0 ≤ (aa : Int) := of_decide_eq_true (G.asm); have bp : aa < (l1.length : Int) := of_decide_eq_true (G.asm); obtain ⟨a9, cr, av, aw⟩ := at_T59 ch.out aa bo bp; have aX := aw; have aY := av; cases cr; replace av := G.hx HB av; replace aw := G.hx HB aw; replace bo := eq_true bo; replace bp := eq_true bp; refine G.st 10 (S := fun w' => w'.cell? (a8.add ((aa).toNat * 2)) = some (.int .i64 ((rd_T59 l0 aa).f0)) ∧ w'.cell? ⟨(a8.add ((aa).toNat * 2)).block, (a8.add ((aa).toNat * 2)).off + 1, none⟩ = some (.int .i64 ((rd_T59 l0 aa).f1)) ∧ w'.cell? (a9.add ((aa).toNat * 2)) = some (.int .i64 ((rd_T59 l1 aa).f0)) ∧ w'.cell? ⟨(a9.add ((aa).toNat * 2)).block, (a9.add ((aa).toNat * 2)).off + 1, none⟩ = some (.int .i64 ((rd_T59 l1 aa).f1))) [] ⟨(G.hx HB aW), (G.hx HB aV), (G.hx HB aY), (G.hx HB aX)⟩ laws_eqTieS.tab6 laws_eqTieS.bits6 (fun hHeld HT_ HW_ => ?_); generalize wr.drew = aR at HB aq au av aw hHeld ⊢; refine G.pu 0 17 1 ?_; refine G.pu 1 18 3 ?_; refine G.pu 2 19 7 ?_; refine G.pu 4 21 23 ?_; refine G.pu 5 22 55 ?_; refine G.pu 6 23 119 ?_; refine G.ta4 3 20 127 ?_; refine G.ta4 7 24 255 ?_; refine G.on 8 25 511 (fun K hK => ?_); refine G.gs Try.func91 #[.agg #[.int .i64 ((rd_T59 l0 aa).f0), .int .i64 ((rd_T59 l0 aa).f1)], .agg #[.int .i64 ((rd_T59 l1 aa).f0), .int .i64 ((rd_T59 l1 aa).f1)]] ?_; with_reducible refine (laws_eqTie.calls ((rd_T59 l0 aa).f0) ((rd_T59 l0 aa).f1) ((rd_T59 l1 aa).f0) ((rd_T59 l1 aa).f1) false _ A7.out).mono ?_
        rintro e eG ⟨rfl, hb⟩; refine ⟨_, rfl, ?_⟩; have n0 := G.bs HB hb; clear HB; revert n0; intro HB; (try clear hb); refine hK.out _ _ ⟨(G.hx HB aW), (G.hx HB aV), (G.hx HB aY), (G.hx HB aX)⟩ (fun hHeld => ?_); clear hK K; refine G.no 25 ?_; refine G.pu 9 26 1023 ?_; refine done_ (done_of HT_.out (by kernel_rfl)) ?_; try go_wp2
        go_ret
        exact ⟨cac0, G.cB HB.out⟩
      ·rw [if_neg c6] at H; exact absurd H (by simp)
     ·rw [if_neg c5] at H; exact absurd H (by simp)
    ·rw [if_neg c4] at H; have bj : decide (aa < (l0.length : Int)) = false := decide_eq_false c4; clear c4; obtain rfl := Option.some.inj H
     go_wp2
     go_ret
     exact ⟨cac0, G.cB HB.out⟩
 ·rw [if_neg c3] at H; have aE : ((l0.length : Int) == (l1.length : Int)) = false := beq_eq_false_iff_ne.mpr c3; have aQ : ((l0.length : Int) != (l1.length : Int)) = true := bne_iff_ne.mpr c3; have bJ : (l0.length == l1.length) = false := by first | simpa using c3 | (simp at c3 ⊢; omega)
  obtain rfl := Option.some.inj H
  go_enter Try.func55, Try.ntmps55
  go_wp2
  go_ret
  exact ⟨cac0, G.cB HB.out⟩

/-! ### laws_eqNet: function 20 -/
def laws_eqNet.f (k : Nat) (ab : Int) (ac : List (S59)) (ah : Int) (aA : List (S59)) : Option (Bool) := if ab = ah then ((laws_eqTieS.f k ac aA).bind fun bD => (if bD = true then (some true) else (some false))) else (some false)
theorem laws_eqNet.mono : ∀ a0 a1 a2 a3 k, LeO (laws_eqNet.f k a0 a1 a2 a3) (laws_eqNet.f (k + 1) a0 a1 a2 a3) := by
 intro a0 a1 a2 a3 k; unfold laws_eqNet.f
 repeat' first | (with_reducible first | exact laws_eqTieS.mono _ _ _ | exact LeO.refl _ | exact LeO.none _ | refine LeO.ite ?_ ?_ | refine LeO.bind ?_ (fun _ => ?_)) | exact laws_eqTieS.mono _ _ _ | exact LeO.none _ | refine LeO.ite ?_ ?_ | refine LeO.bind ?_ (fun _ => ?_)
set_option maxHeartbeats 8000000 in
set_option maxRecDepth 100000 in
theorem laws_eqNet.calls (k : Nat) (ab : Int) (ai : Option Addr) (aj : Nat) (ac : List (S59)) (ah : Int) (bq : Option Addr) (br : Nat) (aA : List (S59)) (r : Bool) (w : World) (aS : Kd.C k59 w ai ac.length ac) (aT : ac.length ≤ aj) (cF : Kd.C k59 w bq aA.length aA) (cG : aA.length ≤ br) (h : laws_eqNet.f k ab ac ah aA = some r) :
  Calls Try.prog 20 #[.agg #[.int .i64 ab, .slice ai ac.length aj], .agg #[.int .i64 ah, .slice bq aA.length br]] w fun e w' => e = .returned (.bool r) ∧ Below w.heap.size w w' := by
 have dR := Try.underlying31; have aZ := G.m aS; have a4 := G.m aT; clear aS aT; have cH := G.m cF; have cI := G.m cG; clear cF cG; have HB := G.m (Below.refl w.heap.size w); have H : (if ab = ah then ((laws_eqTieS.f k ac aA).bind fun bD => (if bD = true then (some true) else (some false))) else (some false)) = some r := h; clear h
 by_cases c3 : ab = ah
 ·rw [if_pos c3] at H; have aE : (ab == ah) = true := beq_iff_eq.mpr c3; have aQ : (ab != ah) = false := bne_eq_false_iff_eq.mpr c3; clear c3; obtain ⟨bD, A4, H⟩ := G.bi H; replace H : (if bD = true then (some true) else (some false)) = some r := H
  by_cases c5 : bD = true
  ·subst c5; have H1 : (some true) = some r := by rw [if_pos rfl] at H; exact H
   clear H; have H := H1; clear H1; obtain rfl := Option.some.inj H
   go_enter Try.func20, Try.ntmps20
   go_wp2_with (first | ((with_reducible refine G.h 2 rfl ?_); refine G.be 2 #[.int .i64 ab, .slice ai ac.length aj] 31 ?_; intro ak hg w6 hbox hb; have n0 := G.bs HB hb; have n1 := G.m (hbox); have n2 := G.m (cacZ : w.heap.size ≤ ak); have n3 := G.m (cacZ : w.heap.size ≤ ak); clear HB; revert n0 n1 n2 n3; intro HB af cJ cL; clear hb hbox hg) | ((with_reducible refine G.h 3 rfl ?_); refine G.be 3 #[.int .i64 ah, .slice bq aA.length br] 31 ?_; intro ap hg w7 hbox hb; have n0 := G.bb af hb; have n1 := G.bs HB hb; have n2 := G.m (hbox); have n3 := G.m (cacZ : w.heap.size ≤ ap); have n4 := G.m (cacZ : w.heap.size ≤ ap); have n5 := G.m (cac2 : ak ≠ ap); have n6 := G.m (cac3 : ap ≠ ak); clear af HB; revert n0 n1 n2 n3 n4 n5 n6; intro af HB aD cM cN aL aM; clear hb hbox hg; have dK := aL.out; have dL := aM.out; have ⟨b6, b7, b8, b9⟩ := G.d2 (w := w7) af; have ⟨bK, bL, bM, bN⟩ := G.d2 (w := w7) aD) | ((with_reducible refine G.f 55 rfl ?_); refine G.gL 14 Try.func55 #[.slice ai ac.length aj, .slice bq aA.length br] ?_; (with_reducible refine (laws_eqTieS.calls k _ _ ac _ _ aA true _ ?side1 ?side2 ?side3 ?side4 A4.out).mono ?_); (case side1 => exact G.cC (Kd.C_below aZ.out HB.out)); (case side2 => exact a4.out); (case side3 => exact G.cC (Kd.C_below cH.out HB.out)); (case side4 => exact cI.out); rintro e aR ⟨rfl, hb⟩; refine ⟨_, rfl, ?_⟩; have n0 := G.bb af hb; have n1 := G.bb aD hb; have n2 := G.bs HB hb; clear af aD HB; revert n0 n1 n2; intro af aD HB; (try clear hb)))
   go_ret
   exact ⟨cac0, G.cB HB.out⟩
  ·replace c5 := Bool.eq_false_iff.mpr c5; subst c5; have H1 : (some false) = some r := by rw [if_neg (show ¬ (false = true) by decide)] at H; exact H
   clear H; have H := H1; clear H1; obtain rfl := Option.some.inj H
   go_enter Try.func20, Try.ntmps20
   go_wp2_with (first | ((with_reducible refine G.h 2 rfl ?_); refine G.be 2 #[.int .i64 ab, .slice ai ac.length aj] 31 ?_; intro ak hg eG hbox hb; have n0 := G.bs HB hb; have n1 := G.m (hbox); have n2 := G.m (cacZ : w.heap.size ≤ ak); have n3 := G.m (cacZ : w.heap.size ≤ ak); clear HB; revert n0 n1 n2 n3; intro HB af cJ cL; clear hb hbox hg) | ((with_reducible refine G.h 3 rfl ?_); refine G.be 3 #[.int .i64 ah, .slice bq aA.length br] 31 ?_; intro ap hg bQ hbox hb; have n0 := G.bb af hb; have n1 := G.bs HB hb; have n2 := G.m (hbox); have n3 := G.m (cacZ : w.heap.size ≤ ap); have n4 := G.m (cacZ : w.heap.size ≤ ap); have n5 := G.m (cac2 : ak ≠ ap); have n6 := G.m (cac3 : ap ≠ ak); clear af HB; revert n0 n1 n2 n3 n4 n5 n6; intro af HB aD cM cN aL aM; clear hb hbox hg; have eY := aL.out; have eZ := aM.out; have ⟨ec, ed, ee, ef⟩ := G.d2 (w := bQ) af; have ⟨eg, eh, ei, ej⟩ := G.d2 (w := bQ) aD) | ((with_reducible refine G.f 55 rfl ?_); refine G.gL 14 Try.func55 #[.slice ai ac.length aj, .slice bq aA.length br] ?_; (with_reducible refine (laws_eqTieS.calls k _ _ ac _ _ aA false _ ?side1 ?side2 ?side3 ?side4 A4.out).mono ?_); (case side1 => exact G.cC (Kd.C_below aZ.out HB.out)); (case side2 => exact a4.out); (case side3 => exact G.cC (Kd.C_below cH.out HB.out)); (case side4 => exact cI.out); rintro e ff ⟨rfl, hb⟩; refine ⟨_, rfl, ?_⟩; have n0 := G.bb af hb; have n1 := G.bb aD hb; have n2 := G.bs HB hb; clear af aD HB; revert n0 n1 n2; intro af aD HB; (try clear hb)))
   go_ret
   exact ⟨cac0, G.cB HB.out⟩
 ·rw [if_neg c3] at H; have aE : (ab == ah) = false := beq_eq_false_iff_ne.mpr c3; have aQ : (ab != ah) = true := bne_iff_ne.mpr c3; obtain rfl := Option.some.inj H
  go_enter Try.func20, Try.ntmps20
  go_wp2_with (first | ((with_reducible refine G.h 2 rfl ?_); refine G.be 2 #[.int .i64 ab, .slice ai ac.length aj] 31 ?_; intro ak hg fg hbox hb; have n0 := G.bs HB hb; have n1 := G.m (hbox); have n2 := G.m (cacZ : w.heap.size ≤ ak); have n3 := G.m (cacZ : w.heap.size ≤ ak); clear HB; revert n0 n1 n2 n3; intro HB af cJ cL; clear hb hbox hg) | ((with_reducible refine G.h 3 rfl ?_); refine G.be 3 #[.int .i64 ah, .slice bq aA.length br] 31 ?_; intro ap hg dG hbox hb; have n0 := G.bb af hb; have n1 := G.bs HB hb; have n2 := G.m (hbox); have n3 := G.m (cacZ : w.heap.size ≤ ap); have n4 := G.m (cacZ : w.heap.size ≤ ap); have n5 := G.m (cac2 : ak ≠ ap); have n6 := G.m (cac3 : ap ≠ ak); clear af HB; revert n0 n1 n2 n3 n4 n5 n6; intro af HB aD cM cN aL aM; clear hb hbox hg; have e2 := aL.out; have e3 := aM.out; have ⟨ek, el, em, en⟩ := G.d2 (w := dG) af; have ⟨eo, ep, eq, er⟩ := G.d2 (w := dG) aD))
  go_ret
  exact ⟨cac0, G.cB HB.out⟩

/-! ### laws_eqIntS: function 56 -/
def laws_eqIntS.l0 : Nat → List Int → List Int → Int → Option (Bool)
 | 0, _, _, _ => none
 | k + 1, x0, x1, x5 => if x5 < (x0.length : Int) then (if 0 ≤ x5 then (if x5 < (x1.length : Int) then (if (rd x0 x5) = (rd x1 x5) then (laws_eqIntS.l0 k x0 x1 (wrap64 (x5 + 1))) else (some false)) else (none)) else (none)) else (some true)
def laws_eqIntS.f (k : Nat) (l0 : List Int) (l1 : List Int) : Option (Bool) := if (l0.length : Int) = (l1.length : Int) then (laws_eqIntS.l0 k l0 l1 0) else (some false)
theorem laws_eqIntS.mono_l : ∀ k, (∀ y0 y1 y2, LeO (laws_eqIntS.l0 k y0 y1 y2) (laws_eqIntS.l0 (k + 1) y0 y1 y2))
 | 0 => fun _ _ _ r h => by simp [laws_eqIntS.l0] at h
 | k + 1 => by
  have aI := laws_eqIntS.mono_l k
  ·intro y0 y1 y2; unfold laws_eqIntS.l0
   repeat' first
   | (with_reducible exact aI _ _ _)
   | (with_reducible exact LeO.refl _)
   | (with_reducible exact LeO.none _)
   | (with_reducible refine LeO.ite ?_ ?_)
   | (with_reducible refine LeO.bind ?_ (fun _ => ?_))
   | exact aI _ _ _
   | exact LeO.none _
   | refine LeO.ite ?_ ?_
   | refine LeO.bind ?_ (fun _ => ?_)
theorem laws_eqIntS.mono : ∀ a0 a1 k, LeO (laws_eqIntS.f k a0 a1) (laws_eqIntS.f (k + 1) a0 a1) := by
 intro a0 a1 k; have aI := laws_eqIntS.mono_l k; unfold laws_eqIntS.f
 repeat' first | (with_reducible first | exact aI _ _ _ | exact LeO.refl _ | exact LeO.none _ | refine LeO.ite ?_ ?_ | refine LeO.bind ?_ (fun _ => ?_)) | exact aI _ _ _ | exact LeO.none _ | refine LeO.ite ?_ ?_ | refine LeO.bind ?_ (fun _ => ?_)
set_option maxHeartbeats 8000000 in
set_option maxRecDepth 100000 in
theorem laws_eqIntS.calls (k : Nat) (A0 : Option Addr) (c0 : Nat) (l0 : List Int) (A1 : Option Addr) (c1 : Nat) (l1 : List Int) (r : Bool) (w : World) (a_ : Kd.C (Kd.int .i64) w A0 l0.length l0) (ba : l0.length ≤ c0) (hr1 : Kd.C (Kd.int .i64) w A1 l1.length l1) (cg : l1.length ≤ c1) (h : laws_eqIntS.f k l0 l1 = some r) :
  Calls Try.prog 56 #[.slice A0 l0.length c0, .slice A1 l1.length c1] w fun e w' => e = .returned (.bool r) ∧ Drawn0 w w' := by
 have bE := G.m a_; have c_ := G.m ba; clear a_ ba; have ch := G.m hr1; have eF := G.m cg; clear hr1 cg; have H : (if (l0.length : Int) = (l1.length : Int) then (laws_eqIntS.l0 k l0 l1 0) else (some false)) = some r := h; clear h
 by_cases c3 : (l0.length : Int) = (l1.length : Int)
 ·rw [if_pos c3] at H; have aE : ((l0.length : Int) == (l1.length : Int)) = true := beq_iff_eq.mpr c3; have aQ : ((l0.length : Int) != (l1.length : Int)) = false := bne_eq_false_iff_eq.mpr c3; have bJ : (l0.length == l1.length) = true := by first | simpa using c3 | (simp at c3 ⊢; omega)
  clear c3; have H' := G.m H; clear H
  go_enter Try.func56, Try.ntmps56
  go_wp2
  repeat (go_quiet (fail); try go_wp2)
  go_loopg [5] k (fun kq v5 w' => ∃ (aa : Int), v5 = .int .i64 aa ∧ Aside0 (laws_eqIntS.l0 kq l0 l1 aa = some r) ∧ Aside0 (kq ≤ k) ∧ Drawn0 w w')
  case atStart => exact ⟨(0), (cac1), H', ⟨Nat.le_refl _⟩, by repeat (first | exact Drawn0.refl _ | apply Drawn0.step)⟩
  case round =>
   clear H'; (try clear aE aQ bJ); obtain ⟨aa, rfl, HA, bF, ⟨m1, rfl⟩⟩ := hrel; cases gk with
   | zero => exact absurd HA.out (by simp [laws_eqIntS.l0])
   | succ k1 =>
    have H := HA.out; clear HA; simp only [laws_eqIntS.l0] at H
    by_cases c4 : aa < (l0.length : Int)
    ·rw [if_pos c4] at H; have bj : decide (aa < (l0.length : Int)) = true := decide_eq_true c4; clear c4
     by_cases c5 : 0 ≤ aa
     ·rw [if_pos c5] at H; have dW : decide (0 ≤ aa) = true := decide_eq_true c5; clear c5
      by_cases c6 : aa < (l1.length : Int)
      ·rw [if_pos c6] at H; have cj : decide (aa < (l1.length : Int)) = true := decide_eq_true c6; clear c6
       by_cases c7 : (rd l0 aa) = (rd l1 aa)
       ·rw [if_pos c7] at H; have db : ((rd l0 aa) == (rd l1 aa)) = true := beq_iff_eq.mpr c7; have dX : ((rd l0 aa) != (rd l1 aa)) = false := bne_eq_false_iff_eq.mpr c7; clear c7; have H' := G.m H; clear H; have bu : 0 ≤ (aa : Int) := of_decide_eq_true (G.asm); have bv : aa < (l0.length : Int) := of_decide_eq_true (G.asm); obtain ⟨dA, ct, cY⟩ := Kd.at_int bE.out aa bu bv; cases ct; replace bu := eq_true bu; replace bv := eq_true bv; have bw : 0 ≤ (aa : Int) := of_decide_eq_true (G.asm); have bx : aa < (l1.length : Int) := of_decide_eq_true (G.asm); obtain ⟨dB, cu, cZ⟩ := Kd.at_int ch.out aa bw bx; cases cu; replace bw := eq_true bw; replace bx := eq_true bx
        go_wp2
        repeat (go_quiet (fail); try go_wp2)
        go_roundg k1
        case measure => have := bF.out; omega
        case rel => exact ⟨(wrap64 (aa + 1)), (cac1), H', ⟨by have := bF.out; omega⟩, by repeat (first | exact Drawn0.refl _ | apply Drawn0.step)⟩
       ·rw [if_neg c7] at H; have db : ((rd l0 aa) == (rd l1 aa)) = false := beq_eq_false_iff_ne.mpr c7; have dX : ((rd l0 aa) != (rd l1 aa)) = true := bne_iff_ne.mpr c7; obtain rfl := Option.some.inj H; have bu : 0 ≤ (aa : Int) := of_decide_eq_true (G.asm); have bv : aa < (l0.length : Int) := of_decide_eq_true (G.asm); obtain ⟨dA, ct, cY⟩ := Kd.at_int bE.out aa bu bv; cases ct; replace bu := eq_true bu; replace bv := eq_true bv; have bw : 0 ≤ (aa : Int) := of_decide_eq_true (G.asm); have bx : aa < (l1.length : Int) := of_decide_eq_true (G.asm); obtain ⟨dB, cu, cZ⟩ := Kd.at_int ch.out aa bw bx; cases cu; replace bw := eq_true bw; replace bx := eq_true bx
        go_wp2
        repeat (go_quiet (fail); try go_wp2)
        go_ret
        exact ⟨cac1, by repeat (first | exact Drawn0.refl _ | apply Drawn0.step)⟩
      ·rw [if_neg c6] at H; exact absurd H (by simp)
     ·rw [if_neg c5] at H; exact absurd H (by simp)
    ·rw [if_neg c4] at H; have bj : decide (aa < (l0.length : Int)) = false := decide_eq_false c4; clear c4; obtain rfl := Option.some.inj H
     go_wp2
     repeat (go_quiet (fail); try go_wp2)
     go_ret
     exact ⟨cac1, by repeat (first | exact Drawn0.refl _ | apply Drawn0.step)⟩
 ·rw [if_neg c3] at H; have aE : ((l0.length : Int) == (l1.length : Int)) = false := beq_eq_false_iff_ne.mpr c3; have aQ : ((l0.length : Int) != (l1.length : Int)) = true := bne_iff_ne.mpr c3; have bJ : (l0.length == l1.length) = false := by first | simpa using c3 | (simp at c3 ⊢; omega)
  obtain rfl := Option.some.inj H
  go_enter Try.func56, Try.ntmps56
  go_wp2
  repeat (go_quiet (fail); try go_wp2)
  go_ret
  exact ⟨cac1, by repeat (first | exact Drawn0.refl _ | apply Drawn0.step)⟩

end Go.Proofs.Ytgeonpciodepgaa.P
