-- Printed by a program of this session (mp.py, over the kit's print). Not trusted: Lean checks it.
import Derived.Test.YtjkeagcenmmknaaDoorF0
import Derived.Test.YtjkeagcenmmknaaDoorF3
import Derived.Test.YtjkeagcenmmknaaDoorF22
import Derived.Test.YtjkeagcenmmknaaDoorF24
namespace Go.Proofs.YtjkeagcenmmknaaDoor.P
open Go.RowKit Go.Proofs.YtjkeagcenmmknaaDoorW.PrintWords Go.Proofs.YtjkeagcenmmknaaDoorW.PrintLast Go.Proofs.YtjkeagcenmmknaaDoorW.PrintMore
attribute [local go_sem] max2_int min2_int max_two min_two max_three min_three max_four min_four   -- for this text's walks alone
set_option linter.unusedVariables false
set_option linter.unusedSimpArgs false

theorem caec {p : Prop} (h : p := by (with_reducible repeat (first | refine blk_drewN ?_ _ | refine blk_drew ?_ | refine blk_alloc ?_ _)); refine blk_far ?_ az.out _; (with_reducible repeat (first | refine blk_drewN ?_ _ | refine blk_drew ?_ | refine blk_alloc ?_ _)); refine blk_far ?_ az.out _; (with_reducible repeat (first | refine blk_drewN ?_ _ | refine blk_drew ?_ | refine blk_alloc ?_ _)); exact ah.out) : p := h
theorem caed {p : Prop} (h : p := by (with_reducible repeat (first | apply Kd.V_alloc | apply Kd.V_drewN | apply Kd.V_drew)); exact Kd.V_mono (Kd.V_far (p := ⟨aj, 1, none⟩) (Kd.V_far (p := ⟨aj, 0, none⟩) (Kd.V_mono aF.out (fun k_ hk => (⟨hk, hk.2⟩ : _ ∧ k_ ≠ aj))) (fun _ hk => hk.2) (.int .i64 ak)) (fun _ hk => hk.2) (.slice ao ag.length ap)) (fun _ hk => ⟨hk.1.1.1, ⟨hk.1.1.2, hk.1.2⟩⟩)) : p := h
theorem caea {p : Prop} (h : p := by first | rfl | (simp; done) | (simp [*]; done)) : p := h
theorem caeb {p : Prop} (h : p := by rw [hg]; exact (below_size (G.cB HB.out))) : p := h
/-! ### impl_WayParts: function 66 -/
def impl_WayParts.f (k : Nat) (ak : Int) (ag : List (S51)) : Option (List Int) := (impl_NetOk.f k ak ag).bind fun aY => (if aY = true then ((impl_Net_parts.f k ak ag).bind fun aE => (some aE)) else (some (([] : List Int))))
theorem impl_WayParts.mono : ∀ a0 a1 k, LeO (impl_WayParts.f k a0 a1) (impl_WayParts.f (k + 1) a0 a1) := by
 intro a0 a1 k; unfold impl_WayParts.f
 repeat' first | (with_reducible first | exact impl_NetOk.mono _ _ _ | exact impl_Net_parts.mono _ _ _ | exact LeO.refl _ | exact LeO.none _ | refine LeO.ite ?_ ?_ | refine LeO.bind ?_ (fun _ => ?_)) | exact impl_NetOk.mono _ _ _ | exact impl_Net_parts.mono _ _ _ | exact LeO.none _ | refine LeO.ite ?_ ?_ | refine LeO.bind ?_ (fun _ => ?_)
set_option maxHeartbeats 8000000 in
set_option maxRecDepth 100000 in
theorem impl_WayParts.calls (k : Nat) (ak : Int) (ao : Option Addr) (ap : Nat) (ag : List (S51)) (r : List Int) (w : World) (bP : Kd.C k51 w ao ag.length ag) (bQ : ag.length ≤ ap) (h : impl_WayParts.f k ak ag = some r) :
  Calls Tryd.prog 66 #[.agg #[.int .i64 ak, .slice ao ag.length ap]] w fun e w' => ∃ cT : Value, e = .returned (cT) ∧ Kd.R (Kd.int .i64) 3 w' w.heap.size (fun _ => True) cT r ∧ Below w.heap.size w w' := by
 have dc := Tryd.underlying29; have bn := G.m bP; have bo := G.m bQ; clear bP bQ; have HB := G.m (Below.refl w.heap.size w); have H : ((impl_NetOk.f k ak ag).bind fun aY => (if aY = true then ((impl_Net_parts.f k ak ag).bind fun aE => (some aE)) else (some (([] : List Int))))) = some r := h; clear h; obtain ⟨aY, A2, H⟩ := G.bi H; replace H : (if aY = true then ((impl_Net_parts.f k ak ag).bind fun aE => (some aE)) else (some (([] : List Int)))) = some r := H
 by_cases c3 : aY = true
 ·subst c3; have H1 : ((impl_Net_parts.f k ak ag).bind fun aE => (some aE)) = some r := by rw [if_pos rfl] at H; exact H
  clear H; have H := H1; clear H1; obtain ⟨aE, A4, H⟩ := G.bi H; replace H : (some aE) = some r := H; obtain rfl := Option.some.inj H
  go_enter Tryd.func66, Tryd.ntmps66
  go_wp2_with (first | ((with_reducible refine G.h 1 rfl ?_); refine G.be 1 #[.int .i64 ak, .slice ao ag.length ap] 29 ?_; intro aU hg w5 hbox hb; have n0 := G.bs HB hb; have n1 := G.m (hbox); have n2 := G.m (caeb : w.heap.size ≤ aU); have n3 := G.m (caeb : w.heap.size ≤ aU); clear HB; revert n0 n1 n2 n3; intro HB av cy cz; clear hb hbox hg; have ⟨dF, dG, dH, dI⟩ := G.d2 (w := w5) av) | ((with_reducible refine G.f 48 rfl ?_); refine G.gL 4 Tryd.func48 #[.agg #[.int .i64 ak, .slice ao ag.length ap]] ?_; (with_reducible refine (impl_NetOk.calls k ak _ _ ag true _ ?side1 ?side2 A2.out).mono ?_); (case side1 => exact G.cC (Kd.C_below bn.out HB.out)); (case side2 => exact bo.out); rintro e w7 ⟨rfl, hb⟩; refine ⟨_, rfl, ?_⟩; have n0 := G.bb av hb; have n1 := G.bs HB hb; clear av HB; revert n0 n1; intro av HB; (try clear hb); have ⟨dJ, dK, dL, dM⟩ := G.d2 (w := w7) av) | ((with_reducible refine G.f 55 rfl ?_); refine G.gL 8 Tryd.func55 #[.agg #[.int .i64 ak, .slice ao ag.length ap]] ?_; (with_reducible refine (impl_Net_parts.calls k ak _ _ ag aE _ ?side1 ?side2 A4.out).mono ?_); (case side1 => exact G.cC (Kd.C_below bn.out HB.out)); (case side2 => exact bo.out); rintro e w9 ⟨ea, rfl, aG, hb⟩; refine ⟨_, rfl, ?_⟩; have n0 := G.m (Kd.R_lower aG (below_size (G.cB HB.out))); have n1 := G.bb av hb; have n2 := G.bs HB hb; clear av HB; revert n0 n1 n2; intro cA av HB; (try clear hb aG)))
  go_ret
  exact ⟨_, by first | rfl | (simp [errW_none, errW_some] <;> rfl) | (simp [*, errW_none, errW_some] <;> rfl), G.cR cA.out, G.cB HB.out⟩
 ·replace c3 := Bool.eq_false_iff.mpr c3; subst c3; have H1 : (some (([] : List Int))) = some r := by rw [if_neg (show ¬ (false = true) by decide)] at H; exact H
  clear H; have H := H1; clear H1; obtain ⟨dd, aV⟩ : ∃ y_ : List Int, y_ = (([] : List Int)) := ⟨_, rfl⟩; replace H : (some dd) = some r := by first | (rw [aV]; with_reducible exact H) | (have aH := (Option.bind_some _ _).symm.trans H; rw [aV]; with_reducible exact aH) | (have aH := (Option.bind_some _ _).symm.trans H; with_reducible exact aH) | with_reducible exact H | (rw [aV]; exact H) | exact H
  have bR := G.m aV; clear aV; obtain rfl := Option.some.inj H
  go_enter Tryd.func66, Tryd.ntmps66
  go_wp2_with (first | ((with_reducible refine G.h 1 rfl ?_); refine G.be 1 #[.int .i64 ak, .slice ao ag.length ap] 29 ?_; intro aU hg dN hbox hb; have n0 := G.bs HB hb; have n1 := G.m (hbox); have n2 := G.m (caeb : w.heap.size ≤ aU); have n3 := G.m (caeb : w.heap.size ≤ aU); clear HB; revert n0 n1 n2 n3; intro HB av cy cz; clear hb hbox hg; have ⟨dw, dx, dy, dz⟩ := G.d2 (w := dN) av) | ((with_reducible refine G.f 48 rfl ?_); refine G.gL 4 Tryd.func48 #[.agg #[.int .i64 ak, .slice ao ag.length ap]] ?_; (with_reducible refine (impl_NetOk.calls k ak _ _ ag false _ ?side1 ?side2 A2.out).mono ?_); (case side1 => exact G.cC (Kd.C_below bn.out HB.out)); (case side2 => exact bo.out); rintro e es ⟨rfl, hb⟩; refine ⟨_, rfl, ?_⟩; have n0 := G.bb av hb; have n1 := G.bs HB hb; clear av HB; revert n0 n1; intro av HB; (try clear hb)) | ((with_reducible refine G.h 6 rfl ?_); refine Kd.R_lit (Kd.int .i64) _ 3 ?hg (N := 6) ?hd (xs := ([] : List Int)) (inner := []) (ok := fun _ => True) (okp := fun _ => True) ?hr ?hp (fun _ hk => hk) trivial (Below.refl _ _) (Nat.le_refl _) (by simp) ?_; (case hd => rfl); (case hg => rfl); (case hr => first | (go_simp; done) | (go_simp; rfl)); (case hp => exact (Reps.none _ _)); intro eb b8 a9 hb hg_ hnew_; clear hg_ hnew_; (first | rw [← bR.out] at a9 | (simp only [Int.reduceToNat] at a9; rw [← bR.out] at a9)); have n0 := G.m (Kd.R_lower a9 (below_size (G.cB HB.out))); have n1 := G.bb av hb; have n2 := G.bs HB hb; clear av HB; revert n0 n1 n2; intro cD av HB; clear hb a9))
  go_ret
  exact ⟨_, by first | rfl | (simp [errW_none, errW_some] <;> rfl) | (simp [*, errW_none, errW_some] <;> rfl), G.cR cD.out, G.cB HB.out⟩

/-! ### laws_loIn: function 67 -/
def laws_loIn.l0 : Nat → List Int → Int → Int → Option (Bool)
 | 0, _, _, _ => none
 | k + 1, x0, x1, x5 => if x5 < (x0.length : Int) then (if 0 ≤ x5 then (if (rd x0 x5) = x1 then (some true) else (laws_loIn.l0 k x0 x1 (wrap64 (x5 + 1)))) else (none)) else (some false)
def laws_loIn.f (k : Nat) (l0 : List Int) (a1 : Int) : Option (Bool) := laws_loIn.l0 k l0 a1 0
theorem laws_loIn.mono_l : ∀ k, (∀ y0 y1 y2, LeO (laws_loIn.l0 k y0 y1 y2) (laws_loIn.l0 (k + 1) y0 y1 y2))
 | 0 => fun _ _ _ r h => by simp [laws_loIn.l0] at h
 | k + 1 => by
  have aI := laws_loIn.mono_l k
  ·intro y0 y1 y2; unfold laws_loIn.l0
   repeat' first
   | (with_reducible exact aI _ _ _)
   | (with_reducible exact LeO.refl _)
   | (with_reducible exact LeO.none _)
   | (with_reducible refine LeO.ite ?_ ?_)
   | (with_reducible refine LeO.bind ?_ (fun _ => ?_))
   | exact aI _ _ _
   | exact LeO.none _
   | refine LeO.ite ?_ ?_
   | refine LeO.bind ?_ (fun _ => ?_)
theorem laws_loIn.mono : ∀ a0 a1 k, LeO (laws_loIn.f k a0 a1) (laws_loIn.f (k + 1) a0 a1) := by
 intro a0 a1 k; have aI := laws_loIn.mono_l k; unfold laws_loIn.f
 repeat' first | (with_reducible first | exact aI _ _ _ | exact LeO.refl _ | exact LeO.none _ | refine LeO.ite ?_ ?_ | refine LeO.bind ?_ (fun _ => ?_)) | exact aI _ _ _ | exact LeO.none _ | refine LeO.ite ?_ ?_ | refine LeO.bind ?_ (fun _ => ?_)
set_option maxHeartbeats 8000000 in
set_option maxRecDepth 100000 in
theorem laws_loIn.calls (k : Nat) (A0 : Option Addr) (c0 : Nat) (l0 : List Int) (a1 : Int) (r : Bool) (w : World) (cU : Kd.C (Kd.int .i64) w A0 l0.length l0) (cW : l0.length ≤ c0) (h : laws_loIn.f k l0 a1 = some r) :
  Calls Tryd.prog 67 #[.slice A0 l0.length c0, .int .i64 a1] w fun e w' => e = .returned (.bool r) ∧ Drawn0 w w' := by
 have cX := G.m cU; have et := G.m cW; clear cU cW; have H : (laws_loIn.l0 k l0 a1 0) = some r := h; clear h; have H' := G.m H; clear H
 go_enter Tryd.func67, Tryd.ntmps67
 go_wp2
 go_loopg [5] k (fun kq v5 w' => ∃ (aw : Int), v5 = .int .i64 aw ∧ Aside0 (laws_loIn.l0 kq l0 a1 aw = some r) ∧ Aside0 (kq ≤ k) ∧ Drawn0 w w')
 case atStart => exact ⟨(0), (caea), H', ⟨Nat.le_refl _⟩, by repeat (first | exact Drawn0.refl _ | apply Drawn0.step)⟩
 case round =>
  clear H'; try clear p2
  obtain ⟨aw, rfl, HA, aJ, ⟨m1, rfl⟩⟩ := hrel; cases gk with
  | zero => exact absurd HA.out (by simp [laws_loIn.l0])
  | succ k1 =>
   have H := HA.out; clear HA; simp only [laws_loIn.l0] at H
   by_cases c3 : aw < (l0.length : Int)
   ·rw [if_pos c3] at H; have de : decide (aw < (l0.length : Int)) = true := decide_eq_true c3; clear c3
    by_cases c4 : 0 ≤ aw
    ·rw [if_pos c4] at H; have ec : decide (0 ≤ aw) = true := decide_eq_true c4; clear c4
     by_cases c5 : (rd l0 aw) = a1
     ·rw [if_pos c5] at H; have df : ((rd l0 aw) == a1) = true := beq_iff_eq.mpr c5; have dg : ((rd l0 aw) != a1) = false := bne_eq_false_iff_eq.mpr c5; clear c5; obtain rfl := Option.some.inj H; have aP : 0 ≤ (aw : Int) := of_decide_eq_true (G.asm); have aQ : aw < (l0.length : Int) := of_decide_eq_true (G.asm); obtain ⟨cE, bB, b3⟩ := Kd.at_int cX.out aw aP aQ; cases bB; replace aP := eq_true aP; replace aQ := eq_true aQ
      go_wp2
      go_ret
      exact ⟨caea, by repeat (first | exact Drawn0.refl _ | apply Drawn0.step)⟩
     ·rw [if_neg c5] at H; have df : ((rd l0 aw) == a1) = false := beq_eq_false_iff_ne.mpr c5; have dg : ((rd l0 aw) != a1) = true := bne_iff_ne.mpr c5; have H' := G.m H; clear H; have aP : 0 ≤ (aw : Int) := of_decide_eq_true (G.asm); have aQ : aw < (l0.length : Int) := of_decide_eq_true (G.asm); obtain ⟨cE, bB, b3⟩ := Kd.at_int cX.out aw aP aQ; cases bB; replace aP := eq_true aP; replace aQ := eq_true aQ
      go_wp2
      go_roundg k1
      case measure => have := aJ.out; omega
      case rel => exact ⟨(wrap64 (aw + 1)), (caea), H', ⟨by have := aJ.out; omega⟩, by repeat (first | exact Drawn0.refl _ | apply Drawn0.step)⟩
    ·rw [if_neg c4] at H; exact absurd H (by simp)
   ·rw [if_neg c3] at H; have de : decide (aw < (l0.length : Int)) = false := decide_eq_false c3; clear c3; obtain rfl := Option.some.inj H
    go_wp2
    go_ret
    exact ⟨caea, by repeat (first | exact Drawn0.refl _ | apply Drawn0.step)⟩

/-! ### laws_loOdd: function 40 -/
mutual
def laws_loOdd.l0 : Nat → List Int → Int → Int → List (S51) → Option (Int)
 | 0, _, _, _, _ => none
 | k + 1, x1, x6, bc, bd => if x6 < (x1.length : Int) then (if 0 ≤ x6 then ((impl_NetWithout.f k bc bd (rd x1 x6)).bind fun bS => (laws_loOdd.l0 k x1 (wrap64 (x6 + 1)) bS.1 bS.2)) else (none)) else ((impl_WayParts.f k bc bd).bind fun ab => (if 0 ≤ (ab.length : Int) then (if ((ab.length : Int) : Int).toNat ≤ 35184372088832 then (laws_loOdd.l1 k x1 ab (List.replicate ((ab.length : Int) : Int).toNat 0) 0) else (none)) else (none)))
def laws_loOdd.l1 : Nat → List Int → List Int → List Int → Int → Option (Int)
 | 0, _, _, _, _ => none
 | k + 1, x1, x7, x8, x9 => if x9 < (x7.length : Int) then ((laws_loIn.f k x1 x9).bind fun bp => (if bp = true then (laws_loOdd.l1 k x1 x7 x8 (wrap64 (x9 + 1))) else (if 0 ≤ x9 then (if 0 ≤ (rd x7 x9) then (if (rd x7 x9) < (x8.length : Int) then (laws_loOdd.l1 k x1 x7 (x8.set ((rd x7 x9) : Int).toNat (wrap64 ((rd x8 (rd x7 x9)) + 1))) (wrap64 (x9 + 1))) else (none)) else (none)) else (none)))) else (laws_loOdd.l2 k x8 0 0)
def laws_loOdd.l2 : Nat → List Int → Int → Int → Option (Int)
 | 0, _, _, _ => none
 | k + 1, x8, cY, bT => if bT < (x8.length : Int) then (if 0 ≤ bT then (laws_loOdd.l2 k x8 (wrap64 (cY + (Int.tmod (rd x8 bT) 2))) (wrap64 (bT + 1))) else (none)) else (some cY)
end
def laws_loOdd.f (k : Nat) (ak : Int) (ag : List (S51)) (l1 : List Int) : Option (Int) := laws_loOdd.l0 k l1 0 ak ag
theorem laws_loOdd.mono_l : ∀ k, (∀ y0 y1 y2 y3, LeO (laws_loOdd.l0 k y0 y1 y2 y3) (laws_loOdd.l0 (k + 1) y0 y1 y2 y3)) ∧ (∀ y0 y1 y2 y3, LeO (laws_loOdd.l1 k y0 y1 y2 y3) (laws_loOdd.l1 (k + 1) y0 y1 y2 y3)) ∧ (∀ y0 y1 y2, LeO (laws_loOdd.l2 k y0 y1 y2) (laws_loOdd.l2 (k + 1) y0 y1 y2))
 | 0 => ⟨fun _ _ _ _ r h => by simp [laws_loOdd.l0] at h, fun _ _ _ _ r h => by simp [laws_loOdd.l1] at h, fun _ _ _ r h => by simp [laws_loOdd.l2] at h⟩
 | k + 1 => by
  obtain ⟨aI, br, bu⟩ := laws_loOdd.mono_l k; refine ⟨?_, ?_, ?_⟩ <;> intros
  all_goals first | unfold laws_loOdd.l0 | unfold laws_loOdd.l1 | unfold laws_loOdd.l2
  repeat' first | (with_reducible first | exact aI _ _ _ _ | exact br _ _ _ _ | exact bu _ _ _ | exact impl_NetWithout.mono _ _ _ _ | exact impl_WayParts.mono _ _ _ | exact laws_loIn.mono _ _ _ | exact LeO.refl _ | exact LeO.none _ | refine LeO.ite ?_ ?_ | refine LeO.bind ?_ (fun _ => ?_)) | exact aI _ _ _ _ | exact br _ _ _ _ | exact bu _ _ _ | exact impl_NetWithout.mono _ _ _ _ | exact impl_WayParts.mono _ _ _ | exact laws_loIn.mono _ _ _ | exact LeO.none _ | refine LeO.ite ?_ ?_ | refine LeO.bind ?_ (fun _ => ?_)
theorem laws_loOdd.mono : ∀ a0 a1 a2 k, LeO (laws_loOdd.f k a0 a1 a2) (laws_loOdd.f (k + 1) a0 a1 a2) := by
 intro a0 a1 a2 k; obtain ⟨aI, br, bu⟩ := laws_loOdd.mono_l k; unfold laws_loOdd.f
 repeat' first | (with_reducible first | exact aI _ _ _ _ | exact br _ _ _ _ | exact bu _ _ _ | exact impl_NetWithout.mono _ _ _ _ | exact impl_WayParts.mono _ _ _ | exact laws_loIn.mono _ _ _ | exact LeO.refl _ | exact LeO.none _ | refine LeO.ite ?_ ?_ | refine LeO.bind ?_ (fun _ => ?_)) | exact aI _ _ _ _ | exact br _ _ _ _ | exact bu _ _ _ | exact impl_NetWithout.mono _ _ _ _ | exact impl_WayParts.mono _ _ _ | exact laws_loIn.mono _ _ _ | exact LeO.none _ | refine LeO.ite ?_ ?_ | refine LeO.bind ?_ (fun _ => ?_)
def laws_loOdd.T12 : Bool × List (List Nat × List Nat) := (true, [([], []), ([], []), ([], []), ([1, 2], [1, 2]), ([3], [3]), ([], []), ([], []), ([], []), ([6, 7], [6, 7]), ([8], [8]), ([5, 9], [5, 9]), ([10], [10]), ([11], [11]), ([0, 4, 0, 1, 2, 3, 4, 5, 6, 7, 8, 9, 10, 11, 12], [0, 4]), ([13, 12, 0, 1, 2, 3, 4, 5, 6, 7, 8, 9, 10, 11, 12], [12, 13])])
def laws_loOdd.B12 : List Nat := [0, 0, 0, 6, 14, 0, 0, 0, 192, 448, 992, 2016, 4064, 8191, 16383]
theorem laws_loOdd.tab12 : rtab .any (opsOf Tryd.f40 12) = laws_loOdd.T12 := by kernel_rfl
theorem laws_loOdd.bits12 : waitsOk laws_loOdd.T12.2 laws_loOdd.B12 = true := by kernel_rfl
set_option maxHeartbeats 8000000 in
set_option maxRecDepth 100000 in
theorem laws_loOdd.calls (k : Nat) (ak : Int) (aA : Nat → Prop) (ao : Option Addr) (ap : Nat) (ag : List (S51)) (A1 : Option Addr) (c1 : Nat) (l1 : List Int) (r : Int) (w : World) (cF : Kd.V k51 51 w w.heap.size (fun k_ => aA k_) (.slice ao ag.length ap) ag) (hr1 : Kd.C (Kd.int .i64) w A1 l1.length l1) (cZ : l1.length ≤ c1) (h : laws_loOdd.f k ak ag l1 = some r) :
  Calls Tryd.prog 40 #[.agg #[.int .i64 ak, .slice ao ag.length ap], .slice A1 l1.length c1] w fun e w' => e = .returned (.int .i64 r) ∧ Below w.heap.size w w' := by
 have dc := Tryd.underlying29; have aF := G.m (show Kd.V k51 51 w w.heap.size (fun k_ => (aA k_ ∨ w.heap.size ≤ k_)) (.slice ao ag.length ap) ag from Kd.V_mono cF (fun k_ hk => .inl hk)); have b9 := G.m hr1; have c_ := G.m cZ; clear hr1 cZ; have HB := G.m (Below.refl w.heap.size w); have H : (laws_loOdd.l0 k l1 0 ak ag) = some r := h; clear h; have H' := G.m H; clear H
 go_enter Tryd.func40, Tryd.ntmps40
 go_wp2_with (first | ((with_reducible refine G.h 2 rfl ?_); refine G.be 2 #[.int .i64 ak, .slice ao ag.length ap] 29 ?_; intro aq hg w3 hbox hb; have n0 := G.m (Kd.V_below (Kd.V_elderB (G.cV aF.out) aq (Nat.le_of_eq hg.symm)) hb); have n1 := G.bs HB hb; have n2 := G.m (hbox); have n3 := G.m (caeb : w.heap.size ≤ aq); have n4 := G.m (caeb : w.heap.size ≤ aq); clear aF HB; revert n0 n1 n2 n3 n4; intro aF HB ah dS cG; clear hb hbox hg; have ⟨b_, ca, cd, ce⟩ := G.d2 (w := w3) ah) | ((with_reducible refine G.h 5 rfl ?_); refine G.be 5 #[.int .i64 0, .slice none 0 0] 29 ?_; intro aj hg w5 hbox hb; have n0 := G.m (Kd.V_below (Kd.V_elderB (G.cV aF.out) aj (Nat.le_of_eq hg.symm)) hb); have n1 := G.bb ah hb; have n2 := G.bs HB hb; have n3 := G.m (hbox); have n4 := G.m (caeb : w.heap.size ≤ aj); have n5 := G.m (caeb : w.heap.size ≤ aj); have n6 := G.m ((by rw [hg]; exact Nat.ne_of_lt (blk_lt (g := aq) (o := .cells #[.int .i64 ak, .slice ao ag.length ap] 29 (0, 0)) (G.cb ah.out)) : aq ≠ aj)); have n7 := G.m ((by rw [hg]; exact Nat.ne_of_gt (blk_lt (g := aq) (o := .cells #[.int .i64 ak, .slice ao ag.length ap] 29 (0, 0)) (G.cb ah.out)) : aj ≠ aq)); clear aF ah HB; revert n0 n1 n2 n3 n4 n5 n6 n7; intro aF ah HB af dT cH az aD; clear hb hbox hg; have ed := aD.out; have ee := az.out; have ⟨cf, cg, ch, ci⟩ := G.d2 (w := w5) af))
 go_loopg [6] k (fun kq v6 w' => ∃ (ax : Int) (am : Int) (ai : List (S51)) (aZ : Value), v6 = .int .i64 ax ∧ Aside0 (laws_loOdd.l0 kq l1 ax am ai = some r) ∧ Aside0 (kq ≤ k) ∧ Aside0 (Kd.V k51 51 w' w.heap.size (fun k_ => (aA k_ ∨ w.heap.size ≤ k_) ∧ k_ ≠ aq ∧ k_ ≠ aj) (.slice ao ag.length ap) ag) ∧ Aside0 (Kd.V k51 51 w' w.heap.size (fun k_ => (aA k_ ∨ w.heap.size ≤ k_) ∧ k_ ≠ aq ∧ k_ ≠ aj) aZ ai) ∧ Aside0 (w'.heap[aq]? = some (.cells #[.int .i64 ak, (.slice ao ag.length ap)] 29 (0, 0))) ∧ Aside0 (w'.heap[aj]? = some (.cells #[.int .i64 am, aZ] 29 (0, 0))) ∧ Aside0 (Below w.heap.size w w'))
 case atStart => exact ⟨(0), (ak), (ag), (.slice ao ag.length ap), (caea), H', ⟨Nat.le_refl _⟩, ⟨caed⟩, ⟨caed⟩, ⟨caec⟩, ⟨by (with_reducible repeat (first | refine blk_drewN ?_ _ | refine blk_drew ?_ | refine blk_alloc ?_ _)); refine blk_put (cs := #[.int .i64 ak, .slice none 0 0]) ?_ 1 _ rfl; (with_reducible repeat (first | refine blk_drewN ?_ _ | refine blk_drew ?_ | refine blk_alloc ?_ _)); refine blk_put (cs := #[.int .i64 0, .slice none 0 0]) ?_ 0 _ rfl; (with_reducible repeat (first | refine blk_drewN ?_ _ | refine blk_drew ?_ | refine blk_alloc ?_ _)); exact af.out⟩, ⟨G.cB HB.out⟩⟩
 case round =>
  clear H'; (try clear b_ ca cf cg cd ce ch ci); obtain ⟨ax, am, ai, aZ, rfl, HA, aJ, ac, aa, ah, af, HB⟩ := hrel; cases gk with
  | zero => exact absurd HA.out (by simp [laws_loOdd.l0])
  | succ k1 =>
   have H := HA.out; clear HA; simp only [laws_loOdd.l0] at H
   by_cases c8 : ax < (l1.length : Int)
   ·rw [if_pos c8] at H; have cj : decide (ax < (l1.length : Int)) = true := decide_eq_true c8; clear c8
    by_cases c9 : 0 ≤ ax
    ·rw [if_pos c9] at H; have ef : decide (0 ≤ ax) = true := decide_eq_true c9; clear c9; obtain ⟨⟨a3, a4⟩, dO, H⟩ := G.bi H; replace H : (laws_loOdd.l0 k1 l1 (wrap64 (ax + 1)) a3 a4) = some r := H; have H' := G.m H; clear H; try go_wp2
     have n0 := G.m (Kd.V_drew ac.out); have n1 := G.m (Kd.V_drew aa.out); have n2 := G.m (blk_drew ah.out); have n3 := G.m (blk_drew af.out); have n4 := G.m (below_drew1 HB.out); clear ac aa ah af HB; revert n0 n1 n2 n3 n4; intro ac aa ah af HB; have bC : 0 ≤ (ax : Int) := of_decide_eq_true (G.asm); have bD : ax < (l1.length : Int) := of_decide_eq_true (G.asm); obtain ⟨cI, dh, aN⟩ := Kd.at_int b9.out ax bC bD; have bf := aN; cases dh; replace aN := G.hx HB aN; replace bC := eq_true bC; replace bD := eq_true bD; obtain ⟨a_, ba, ck⟩ := Kd.V_slice aa.out; (first | subst ck | (injection ck with a6 bv a7; have bw := a6.symm; have bx := a7.symm; clear a6 bv a7; subst bw; subst bx)); refine start_ (n := 7) (S := fun w' => w'.cell? ⟨aj, 0, none⟩ = some (.int .i64 am) ∧ w'.cell? ⟨aj, 1, none⟩ = some (.slice a_ ai.length ba) ∧ w'.cell? (cI.add (ax).toNat) = some (.int .i64 (rd l1 ax))) (ds := [6]) (G.fl 7 0) (by kernel_rfl) rfl (by kernel_rfl) ⟨G.z af 0, G.z af 1, (G.hx HB bf)⟩ (fun hHeld => ?_); generalize wr.drew = eu at ac aa ah af HB aN hHeld ⊢; refine G.pu 1 20 2 ?_; refine G.pu 2 21 6 ?_; refine G.pu 3 22 14 ?_; refine G.ta3 0 19 15 ?_; refine G.ta3 4 23 31 ?_; refine one_ (i := 5) (N := some 24) (G.fl 7 63) rfl rfl (by kernel_rfl) (by decide) (fun K hK => ?_); refine G.gs Tryd.func32 #[.agg #[.int .i64 am, .slice a_ ai.length ba], .int .i64 (rd l1 ax)] ?_; with_reducible refine (impl_NetWithout.calls k1 am _ _ ai (rd l1 ax) a3 a4 _ ?side1 ?side2 dO.out).mono ?_
     (case side1 => exact G.cC (Kd.V_reads' aa.out).2.2); (case side2 => exact (Kd.V_reads' aa.out).2.1); rintro e b8 ⟨eg, rfl, aG, hb⟩; refine ⟨_, rfl, ?_⟩; have n0 := G.ve ac aG hb; have n1 := G.ve aa aG hb; have n2 := G.m (Kd.R_lower (Kd.R_newM (M := fun k_ => (w.heap.size ≤ k_)) aG (below_size (G.cB HB.out)) (fun k_ h_ => h_)) (below_size (G.cB HB.out))); have n3 := G.bb ah hb; have n4 := G.bb af hb; have n5 := G.bs HB hb; clear ac aa ah af HB; revert n0 n1 n2 n3 n4 n5; intro ac aa bU ah af HB; (try clear hb hk aG); obtain ⟨bE, bF, cl⟩ := Kd.R_slice bU.out; (first | subst cl | (injection cl with a6 bv a7; have bw := a6.symm; have bx := a7.symm; clear a6 bv a7; subst bw; subst bx)); refine hK.out _ _ ⟨G.z af 0, G.z af 1, (G.hx HB bf)⟩ (fun hHeld => ?_); clear hK K; refine G.no 24 ?_; refine last_ (i := 6) (N := none) (G.fl 7 127) rfl rfl (by kernel_rfl) (by decide) (fun K hK => ?_); have eh : b8.cell? ⟨aj, 0, none⟩ = some (.int .i64 am) := G.z af 0; have dU := blk_frozen af.out 0; have dA := az.out; have dB := aD.out; have ei : b8.cell? ⟨aj, 1, none⟩ = some (.slice a_ ai.length ba) := G.z af 1; have dV := blk_frozen af.out 1; have dC := az.out; have dD := aD.out; refine skip_ (w1 := ?_) (by rfl) rfl ?_ ?_; rotate_left
     ·go_simp
      rfl
     refine hK.out _ _ ?_; clear hK K; refine done_ (by kernel_rfl) ?_; try go_wp2
     go_roundg k1
     case measure => have := aJ.out; omega
     case rel => exact ⟨(wrap64 (ax + 1)), (a3), (a4), (.slice bE a4.length bF), (caea), H', ⟨by have := aJ.out; omega⟩, ⟨by (with_reducible repeat (first | apply Kd.V_alloc | apply Kd.V_drewN | apply Kd.V_drew)); exact Kd.V_mono (Kd.V_far (p := ⟨aj, 1, none⟩) (Kd.V_far (p := ⟨aj, 0, none⟩) (Kd.V_mono ac.out (fun k_ hk => (⟨hk, hk.1.2.2⟩ : _ ∧ k_ ≠ aj))) (fun _ hk => hk.2) (.int .i64 a3)) (fun _ hk => hk.2) (.slice bE a4.length bF)) (fun _ hk => ⟨hk.1.1.1, ⟨hk.1.1.2.1, hk.1.1.2.2⟩⟩)⟩, ⟨G.RV2 (by (with_reducible repeat (first | apply Kd.R_alloc | apply Kd.R_drewN | apply Kd.R_drew)); exact Kd.R_mono (Kd.R_far (p := ⟨aj, 1, none⟩) (Kd.R_far (p := ⟨aj, 0, none⟩) (Kd.R_types (Kd.R_types (Kd.R_types bU.out ah.out (by decide)) af.out (by decide)) af.out (by decide)) (fun _ hk => hk.2) (.int .i64 a3)) (fun _ hk => hk.2) (.slice bE a4.length bF)) (fun _ hk => ⟨hk.1.1.1.1, ⟨hk.1.1.2, hk.1.2⟩⟩))⟩, ⟨caec⟩, ⟨by (with_reducible repeat (first | refine blk_drewN ?_ _ | refine blk_drew ?_ | refine blk_alloc ?_ _)); refine blk_put (cs := #[.int .i64 a3, .slice a_ ai.length ba]) ?_ 1 _ rfl; (with_reducible repeat (first | refine blk_drewN ?_ _ | refine blk_drew ?_ | refine blk_alloc ?_ _)); refine blk_put (cs := #[.int .i64 am, .slice a_ ai.length ba]) ?_ 0 _ rfl; (with_reducible repeat (first | refine blk_drewN ?_ _ | refine blk_drew ?_ | refine blk_alloc ?_ _)); exact af.out⟩, ⟨G.cB HB.out⟩⟩
    ·rw [if_neg c9] at H; exact absurd H (by simp)
   ·rw [if_neg c8] at H; have cj : decide (ax < (l1.length : Int)) = false := decide_eq_false c8; clear c8; obtain ⟨ab, dP, H⟩ := G.bi H; replace H : (if 0 ≤ (ab.length : Int) then (if ((ab.length : Int) : Int).toNat ≤ 35184372088832 then (laws_loOdd.l1 k1 l1 ab (List.replicate ((ab.length : Int) : Int).toNat 0) 0) else (none)) else (none)) = some r := H
    by_cases bz : 0 ≤ (ab.length : Int)
    ·rw [if_pos bz] at H; have cJ := eq_true bz; have cL : decide (0 ≤ (ab.length : Int)) = true := decide_eq_true bz; clear bz
     by_cases bA : ((ab.length : Int) : Int).toNat ≤ 35184372088832
     ·rw [if_pos bA] at H; have cM := eq_true bA; have cN : decide (((ab.length : Int) : Int).toNat ≤ 35184372088832) = true := decide_eq_true bA; clear bA; obtain ⟨cm, aW⟩ : ∃ y_ : List Int, y_ = (List.replicate ((ab.length : Int) : Int).toNat 0) := ⟨_, rfl⟩; replace H : (laws_loOdd.l1 k1 l1 ab cm 0) = some r := by first | (rw [aW]; with_reducible exact H) | (have aH := (Option.bind_some _ _).symm.trans H; rw [aW]; with_reducible exact aH) | (have aH := (Option.bind_some _ _).symm.trans H; with_reducible exact aH) | with_reducible exact H | (rw [aW]; exact H) | exact H
      have bV := G.m aW; clear aW; have H' := G.m H; clear H; have dW := aD.out; have dX := az.out; have ⟨b4, b5, b6, b7⟩ := G.d2 (w := wr) af; obtain ⟨aR, aS, di⟩ := Kd.V_slice aa.out; subst di
      go_wp2_with (first | ((with_reducible refine G.f 66 rfl ?_); refine G.gL 26 Tryd.func66 #[.agg #[.int .i64 am, .slice aR ai.length aS]] ?_; (with_reducible refine (impl_WayParts.calls k1 am _ _ ai ab _ ?side1 ?side2 dP.out).mono ?_); (case side1 => exact G.cC (Kd.V_reads' aa.out).2.2); (case side2 => exact (Kd.V_reads' aa.out).2.1); rintro e ev ⟨ej, rfl, aG, hb⟩; refine ⟨_, rfl, ?_⟩; have n0 := G.ve ac aG hb; have n1 := G.ve aa aG hb; have n2 := G.m (Kd.R_lower (Kd.R_newM (M := fun k_ => (w.heap.size ≤ k_)) aG (below_size (G.cB HB.out)) (fun k_ h_ => h_)) (below_size (G.cB HB.out))); have n3 := G.bb ah hb; have n4 := G.bb af hb; have n5 := G.bs HB hb; clear ac aa ah af HB; revert n0 n1 n2 n3 n4 n5; intro ac aa aO ah af HB; (try clear hb aG); obtain ⟨aK, aL, dj⟩ := Kd.R_slice aO.out; subst dj) | ((with_reducible refine G.h 29 rfl ?_); refine Kd.R_make (Kd.int .i64) _ 3 rfl (N := 29) rfl 37 _ _ rfl (ab.length : Int) rfl rfl Tryd.underlying37 (.int .i64 0) 8 info3 rfl (by decide) (by omega) 0 (ok := fun _ => True) (okp := fun _ => True) rfl (fun _ hk => hk) trivial (of_decide_eq_true (G.asm)) (Nat.le_trans (Nat.mul_le_mul_right _ (of_decide_eq_true (G.asm) : (ab.length : Int).toNat ≤ 35184372088832)) (by omega)) (Below.refl _ _) (Nat.le_refl _) ?_; intro aB ew aM hb hg_ hnew_; clear hg_ hnew_; (first | rw [← bV.out] at aM | (simp only [Int.reduceToNat] at aM; rw [← bV.out] at aM)); have n0 := G.ve ac aM hb; have n1 := G.ve aa aM hb; have n2 := G.re aO aM hb; have n3 := G.m (Kd.R_lower (Kd.R_new' (Kd.R_newM (M := fun k_ => (w.heap.size ≤ k_)) aM (below_size (G.cB HB.out)) (fun k_ h_ => h_)) (Kd.R_lt (G.cR aO.out))) (below_size (G.cB HB.out))); have n4 := G.bb ah hb; have n5 := G.bb af hb; have n6 := G.bs HB hb; clear ac aa aO ah af HB; revert n0 n1 n2 n3 n4 n5 n6; intro ac aa aO cO ah af HB; clear hb aM))
      go_loopg [9] k1 (fun kq v9 w' => ∃ (al : List Int) (ae : Int), v9 = .int .i64 ae ∧ Aside0 (laws_loOdd.l1 kq l1 ab al ae = some r) ∧ Aside0 (kq ≤ k1) ∧ Aside0 (Kd.R (Kd.int .i64) 3 w' w.heap.size (fun k_ => (w.heap.size ≤ k_) ∧ some k_ ≠ (aB : Value).ownBlock) (.slice aK ab.length aL) ab) ∧ Aside0 (Kd.R (Kd.int .i64) 3 w' w.heap.size (fun k_ => (w.heap.size ≤ k_) ∧ some k_ ≠ ((.slice aK ab.length aL) : Value).ownBlock) aB al) ∧ Aside0 (Kd.V k51 51 w' w.heap.size (fun k_ => (aA k_ ∨ w.heap.size ≤ k_) ∧ some k_ ≠ ((.slice aK ab.length aL) : Value).ownBlock ∧ some k_ ≠ (aB : Value).ownBlock ∧ k_ ≠ aq ∧ k_ ≠ aj) (.slice ao ag.length ap) ag) ∧ Aside0 (Kd.V k51 51 w' w.heap.size (fun k_ => (aA k_ ∨ w.heap.size ≤ k_) ∧ some k_ ≠ ((.slice aK ab.length aL) : Value).ownBlock ∧ some k_ ≠ (aB : Value).ownBlock ∧ k_ ≠ aq ∧ k_ ≠ aj) (.slice aR ai.length aS) ai) ∧ Aside0 (w'.heap[aq]? = some (.cells #[.int .i64 ak, (.slice ao ag.length ap)] 29 (0, 0))) ∧ Aside0 (w'.heap[aj]? = some (.cells #[.int .i64 am, (.slice aR ai.length aS)] 29 (0, 0))) ∧ Aside0 (Below w.heap.size w w'))
      case atStart => exact ⟨(cm), (0), (caea), H', ⟨Nat.le_refl _⟩, ⟨by (with_reducible repeat (first | apply Kd.R_alloc | apply Kd.R_drewN | apply Kd.R_drew)); exact Kd.R_mono aO.out (fun _ hk => ⟨hk.1.1, hk.2⟩)⟩, ⟨by (with_reducible repeat (first | apply Kd.R_alloc | apply Kd.R_drewN | apply Kd.R_drew)); exact Kd.R_mono cO.out (fun _ hk => ⟨hk.1.1, hk.2⟩)⟩, ⟨by (with_reducible repeat (first | apply Kd.V_alloc | apply Kd.V_drewN | apply Kd.V_drew)); exact Kd.V_mono ac.out (fun _ hk => ⟨hk.1.1.1, ⟨hk.1.2, ⟨hk.2, ⟨hk.1.1.2.1, hk.1.1.2.2⟩⟩⟩⟩)⟩, ⟨by (with_reducible repeat (first | apply Kd.V_alloc | apply Kd.V_drewN | apply Kd.V_drew)); exact Kd.V_mono aa.out (fun _ hk => ⟨hk.1.1.1, ⟨hk.1.2, ⟨hk.2, ⟨hk.1.1.2.1, hk.1.1.2.2⟩⟩⟩⟩)⟩, ⟨G.cb ah.out⟩, ⟨G.cb af.out⟩, ⟨G.cB HB.out⟩⟩
      case round =>
       clear H'; (try clear cj cJ cL cM cN b4 b5 b6 b7); obtain ⟨al, ae, rfl, HA, bh, aC, au, ac, aa, ah, af, HB⟩ := hrel; cases gk with
       | zero => exact absurd HA.out (by simp [laws_loOdd.l1])
       | succ k2 =>
        have H := HA.out; clear HA; simp only [laws_loOdd.l1] at H
        by_cases bj : ae < (ab.length : Int)
        ·rw [if_pos bj] at H; have bW : decide (ae < (ab.length : Int)) = true := decide_eq_true bj; clear bj; obtain ⟨bp, da, H⟩ := G.bi H; replace H : (if bp = true then (laws_loOdd.l1 k2 l1 ab al (wrap64 (ae + 1))) else (if 0 ≤ ae then (if 0 ≤ (rd ab ae) then (if (rd ab ae) < (al.length : Int) then (laws_loOdd.l1 k2 l1 ab (al.set ((rd ab ae) : Int).toNat (wrap64 ((rd al (rd ab ae)) + 1))) (wrap64 (ae + 1))) else (none)) else (none)) else (none))) = some r := H
         by_cases bX : bp = true
         ·subst bX; have H1 : (laws_loOdd.l1 k2 l1 ab al (wrap64 (ae + 1))) = some r := by rw [if_pos rfl] at H; exact H
          clear H; have H := H1; clear H1; have H' := G.m H; clear H
          go_wp2_with (first | ((with_reducible refine G.f 67 rfl ?_); refine G.gL 38 Tryd.func67 #[.slice A1 l1.length c1, .int .i64 ae] ?_; (with_reducible refine (laws_loIn.calls k2 _ _ l1 ae true _ ?side1 ?side2 da.out).mono ?_); (case side1 => exact G.cC (Kd.C_below b9.out HB.out)); (case side2 => exact c_.out); rintro e w' ⟨rfl, ⟨nd, rfl⟩⟩; refine ⟨_, rfl, ?_⟩))
          go_roundg k2
          case measure => have := aJ.out; have := bh.out; omega
          case rel => exact ⟨(al), (wrap64 (ae + 1)), (caea), H', ⟨by have := aJ.out; have := bh.out; omega⟩, ⟨G.cR aC.out⟩, ⟨G.cR au.out⟩, ⟨G.cV ac.out⟩, ⟨G.cV aa.out⟩, ⟨G.cb ah.out⟩, ⟨G.cb af.out⟩, ⟨G.cB HB.out⟩⟩
         ·replace bX := Bool.eq_false_iff.mpr bX; subst bX; have H1 : (if 0 ≤ ae then (if 0 ≤ (rd ab ae) then (if (rd ab ae) < (al.length : Int) then (laws_loOdd.l1 k2 l1 ab (al.set ((rd ab ae) : Int).toNat (wrap64 ((rd al (rd ab ae)) + 1))) (wrap64 (ae + 1))) else (none)) else (none)) else (none)) = some r := by rw [if_neg (show ¬ (false = true) by decide)] at H; exact H
          clear H; have H := H1; clear H1
          by_cases bY : 0 ≤ ae
          ·rw [if_pos bY] at H; have dY : decide (0 ≤ ae) = true := decide_eq_true bY; clear bY
           by_cases bZ : 0 ≤ (rd ab ae)
           ·rw [if_pos bZ] at H; have dZ : decide (0 ≤ (rd ab ae)) = true := decide_eq_true bZ; clear bZ
            by_cases b1 : (rd ab ae) < (al.length : Int)
            ·rw [if_pos b1] at H; have d7 : decide ((rd ab ae) < (al.length : Int)) = true := decide_eq_true b1; clear b1; obtain ⟨cn, aX⟩ : ∃ y_ : List Int, y_ = (al.set ((rd ab ae) : Int).toNat (wrap64 ((rd al (rd ab ae)) + 1))) := ⟨_, rfl⟩; replace H : (laws_loOdd.l1 k2 l1 ab cn (wrap64 (ae + 1))) = some r := by first | (rw [aX]; with_reducible exact H) | (have aH := (Option.bind_some _ _).symm.trans H; rw [aX]; with_reducible exact aH) | (have aH := (Option.bind_some _ _).symm.trans H; with_reducible exact aH) | with_reducible exact H | (rw [aX]; exact H) | exact H
             have cP := G.m aX; clear aX; have H' := G.m H; clear H; try go_wp2_with (first | ((with_reducible refine G.f 67 rfl ?_); refine G.gL 38 Tryd.func67 #[.slice A1 l1.length c1, .int .i64 ae] ?_; (with_reducible refine (laws_loIn.calls k2 _ _ l1 ae false _ ?side1 ?side2 da.out).mono ?_); (case side1 => exact G.cC (Kd.C_below b9.out HB.out)); (case side2 => exact c_.out); rintro e w' ⟨rfl, ⟨nd, rfl⟩⟩; refine ⟨_, rfl, ?_⟩; (try (rw [drewN_self wr]; generalize hq_ : World.drewN wr _ = wr; have n0 : Aside0 (Kd.R (Kd.int .i64) 3 wr w.heap.size (fun k_ => (w.heap.size ≤ k_) ∧ some k_ ≠ (aB : Value).ownBlock) (.slice aK ab.length aL) ab) := ⟨by rw [← hq_]; exact (G.cR aC.out)⟩; have n1 : Aside0 (Kd.R (Kd.int .i64) 3 wr w.heap.size (fun k_ => (w.heap.size ≤ k_) ∧ some k_ ≠ (.slice aK ab.length aL : Value).ownBlock) aB al) := ⟨by rw [← hq_]; exact (G.cR au.out)⟩; have n2 : Aside0 (Kd.V k51 51 wr w.heap.size (fun k_ => (aA k_ ∨ w.heap.size ≤ k_) ∧ some k_ ≠ (.slice aK ab.length aL : Value).ownBlock ∧ some k_ ≠ (aB : Value).ownBlock ∧ k_ ≠ aq ∧ k_ ≠ aj) (.slice ao ag.length ap) ag) := ⟨by rw [← hq_]; exact (G.cV ac.out)⟩; have n3 : Aside0 (Kd.V k51 51 wr w.heap.size (fun k_ => (aA k_ ∨ w.heap.size ≤ k_) ∧ some k_ ≠ (.slice aK ab.length aL : Value).ownBlock ∧ some k_ ≠ (aB : Value).ownBlock ∧ k_ ≠ aq ∧ k_ ≠ aj) (.slice aR ai.length aS) ai) := ⟨by rw [← hq_]; exact (G.cV aa.out)⟩; have n4 : Aside0 (wr.heap[aq]? = some (.cells #[.int .i64 ak, .slice ao ag.length ap] 29 (0, 0))) := ⟨by rw [← hq_]; exact (G.cb ah.out)⟩; have n5 : Aside0 (wr.heap[aj]? = some (.cells #[.int .i64 am, .slice aR ai.length aS] 29 (0, 0))) := ⟨by rw [← hq_]; exact (G.cb af.out)⟩; have n6 : Aside0 (Below w.heap.size w wr) := ⟨by rw [← hq_]; exact (G.cB HB.out)⟩; clear aC au ac aa ah af HB hq_; revert n0 n1 n2 n3 n4 n5 n6; intro aC au ac aa ah af HB))))
             have n0 := G.m (Kd.R_drew aC.out); have n1 := G.m (Kd.R_drew au.out); have n2 := G.m (Kd.V_drew ac.out); have n3 := G.m (Kd.V_drew aa.out); have n4 := G.m (blk_drew ah.out); have n5 := G.m (blk_drew af.out); have n6 := G.m (below_drew1 HB.out); clear aC au ac aa ah af HB; revert n0 n1 n2 n3 n4 n5 n6; intro aC au ac aa ah af HB; have bG : 0 ≤ (ae : Int) := of_decide_eq_true (G.asm); have bH : ae < (ab.length : Int) := of_decide_eq_true (G.asm); obtain ⟨bq, dk, bk⟩ := Kd.at_int (Kd.R_reads' aC.out).2.2 ae bG bH; cases dk; replace bG := eq_true bG; replace bH := eq_true bH; have bI : 0 ≤ (ae : Int) := of_decide_eq_true (G.asm); have bJ : ae < (ab.length : Int) := of_decide_eq_true (G.asm); obtain ⟨cQ, dl, bl⟩ := Kd.at_int (Kd.R_reads' aC.out).2.2 ae bI bJ; obtain rfl : bq = cQ := (by injection dl); replace bI := eq_true bI; replace bJ := eq_true bJ; obtain ⟨ek, el, co⟩ := Kd.R_slice au.out; (first | subst co | (injection co with a6 bv a7; have bw := a6.symm; have bx := a7.symm; clear a6 bv a7; subst bw; subst bx)); have bK : 0 ≤ ((rd ab ae) : Int) := of_decide_eq_true (G.asm); have bL : (rd ab ae) < (al.length : Int) := of_decide_eq_true (G.asm); obtain ⟨d8, dn, a5⟩ := Kd.at_int (Kd.R_reads' au.out).2.2 (rd ab ae) bK bL; cases dn; replace bK := eq_true bK; replace bL := eq_true bL; have cp : 0 ≤ ((rd ab ae) : Int) := of_decide_eq_true (G.asm); have cq : ((rd ab ae) : Int) < ((al.length : Int) : Int) := of_decide_eq_true (G.asm); obtain ⟨aT, em, cr, ct, dp, en, cu⟩ := Kd.R_form au.out (by omega); (first | cases cr | (injection cr with ea_ en_ ec_; (first | subst ea_ | (injection ea_ with ea_; subst ea_)); subst ec_; clear en_)); have dq := G.m ct; have dr := G.m cu; clear ct dp cu; (first | simp only [add_plain] at a5 | skip); obtain ⟨cv, cw⟩ := Kd.R_celln 0 au.out ((rd ab ae) : Int) cp cq; replace cp := eq_true cp; replace cq := eq_true cq; have bM := Kd.R_putn au.out ((rd ab ae) : Int) (wrap64 ((rd al (rd ab ae)) + 1)); rw [← cP.out] at bM; have cx := G.m bM; clear bM; refine G.st 15 (S := fun w' => w'.cell? (bq.add (ae).toNat) = some (.int .i64 (rd ab ae)) ∧ w'.cell? (bq.add (ae).toNat) = some (.int .i64 (rd ab ae)) ∧ w'.cell? ⟨aT, ((rd ab ae)).toNat, none⟩ = some (.int .i64 (rd al (rd ab ae)))) [14] ⟨bk, bl, a5⟩ laws_loOdd.tab12 laws_loOdd.bits12 (fun hHeld HT_ HW_ => ?_); generalize wr.drew = ex at aC au ac aa ah af HB dr cx cw cv bk bl a5 hHeld ⊢; refine G.pu 0 40 1 ?_; refine G.pu 1 41 3 ?_; refine G.pu 2 42 7 ?_; refine G.pu 3 43 15 ?_; refine G.pu 5 45 47 ?_; refine G.pu 6 46 111 ?_; refine G.pu 7 47 239 ?_; refine G.pu 8 48 495 ?_; refine G.ta3 4 44 511 ?_; refine G.ta3 9 49 1023 ?_; refine G.pu 10 50 2047 ?_; refine G.ta3 11 51 4095 ?_; refine G.pu 12 52 8191 ?_; refine G.pu 13 53 16383 ?_; refine G.la 14 (none) (G.fl 15 32767) (fun K hK => ?_); refine skip_ (w1 := ?_) (by rfl) rfl ?_ ?_; rotate_left
             ·go_simp
              rfl
             refine hK.out _ _ ?_; clear hK K; refine done_ (done_of HT_.out (by kernel_rfl)) ?_; try go_wp2
             go_roundg k2
             case measure => have := aJ.out; have := bh.out; omega
             case rel => exact ⟨(cn), (wrap64 (ae + 1)), (caea), H', ⟨by have := aJ.out; have := bh.out; omega⟩, ⟨by (with_reducible repeat (first | apply Kd.R_alloc | apply Kd.R_drewN | apply Kd.R_drew)); exact Kd.R_mono (Kd.R_far (p := ⟨aT, ((rd ab ae) : Int).toNat, none⟩) (Kd.R_mono aC.out (fun k_ hk => (⟨hk, fun e_ => hk.2 (by rw [e_]; rfl)⟩ : _ ∧ k_ ≠ aT))) (fun _ hk => hk.2) (.int .i64 (wrap64 ((rd al (rd ab ae)) + 1)))) (fun _ hk => ⟨hk.1.1, hk.1.2⟩)⟩, ⟨G.cR cx.out⟩, ⟨by (with_reducible repeat (first | apply Kd.V_alloc | apply Kd.V_drewN | apply Kd.V_drew)); exact Kd.V_mono (Kd.V_far (p := ⟨aT, ((rd ab ae) : Int).toNat, none⟩) (Kd.V_mono ac.out (fun k_ hk => (⟨hk, fun e_ => hk.2.2.1 (by rw [e_]; rfl)⟩ : _ ∧ k_ ≠ aT))) (fun _ hk => hk.2) (.int .i64 (wrap64 ((rd al (rd ab ae)) + 1)))) (fun _ hk => ⟨hk.1.1, ⟨hk.1.2.1, ⟨hk.1.2.2.1, ⟨hk.1.2.2.2.1, hk.1.2.2.2.2⟩⟩⟩⟩)⟩, ⟨by (with_reducible repeat (first | apply Kd.V_alloc | apply Kd.V_drewN | apply Kd.V_drew)); exact Kd.V_mono (Kd.V_far (p := ⟨aT, ((rd ab ae) : Int).toNat, none⟩) (Kd.V_mono aa.out (fun k_ hk => (⟨hk, fun e_ => hk.2.2.1 (by rw [e_]; rfl)⟩ : _ ∧ k_ ≠ aT))) (fun _ hk => hk.2) (.int .i64 (wrap64 ((rd al (rd ab ae)) + 1)))) (fun _ hk => ⟨hk.1.1, ⟨hk.1.2.1, ⟨hk.1.2.2.1, ⟨hk.1.2.2.2.1, hk.1.2.2.2.2⟩⟩⟩⟩)⟩, ⟨by (with_reducible repeat (first | refine blk_drewN ?_ _ | refine blk_drew ?_ | refine blk_alloc ?_ _)); refine blk_far ?_ (by have h_ := Kd.R_ne au.out ah.out (by decide); intro e_; exact h_ (by rw [e_]; rfl)) _; (with_reducible repeat (first | refine blk_drewN ?_ _ | refine blk_drew ?_ | refine blk_alloc ?_ _)); exact ah.out⟩, ⟨by (with_reducible repeat (first | refine blk_drewN ?_ _ | refine blk_drew ?_ | refine blk_alloc ?_ _)); refine blk_far ?_ (by have h_ := Kd.R_ne au.out af.out (by decide); intro e_; exact h_ (by rw [e_]; rfl)) _; (with_reducible repeat (first | refine blk_drewN ?_ _ | refine blk_drew ?_ | refine blk_alloc ?_ _)); exact af.out⟩, ⟨by repeat (first | (with_reducible first | exact HB.out | apply below_alloc | apply pw_below_drewN | apply below_drew1 | refine below_set ?_ dq.out | refine below_set ?_ cG.out | refine below_set ?_ cH.out) | exact HB.out)⟩⟩
            ·rw [if_neg b1] at H; exact absurd H (by simp)
           ·rw [if_neg bZ] at H; exact absurd H (by simp)
          ·rw [if_neg bY] at H; exact absurd H (by simp)
        ·rw [if_neg bj] at H; have bW : decide (ae < (ab.length : Int)) = false := decide_eq_false bj; clear bj; have H' := G.m H; clear H
         go_wp2
         go_loopg [10, 11] k2 (fun kq dQ dR w' => ∃ (a8 : Int) (ay : Int), dQ = .int .i64 a8 ∧ dR = .int .i64 ay ∧ Aside0 (laws_loOdd.l2 kq al a8 ay = some r) ∧ Aside0 (kq ≤ k2) ∧ Aside0 (Kd.R (Kd.int .i64) 3 w' w.heap.size (fun k_ => (w.heap.size ≤ k_)) aB al) ∧ Aside0 (Kd.V k51 51 w' w.heap.size (fun k_ => (aA k_ ∨ w.heap.size ≤ k_) ∧ some k_ ≠ (aB : Value).ownBlock ∧ k_ ≠ aq ∧ k_ ≠ aj) (.slice ao ag.length ap) ag) ∧ Aside0 (Kd.V k51 51 w' w.heap.size (fun k_ => (aA k_ ∨ w.heap.size ≤ k_) ∧ some k_ ≠ (aB : Value).ownBlock ∧ k_ ≠ aq ∧ k_ ≠ aj) (.slice aR ai.length aS) ai) ∧ Aside0 (w'.heap[aq]? = some (.cells #[.int .i64 ak, (.slice ao ag.length ap)] 29 (0, 0))) ∧ Aside0 (w'.heap[aj]? = some (.cells #[.int .i64 am, (.slice aR ai.length aS)] 29 (0, 0))) ∧ Aside0 (Below w.heap.size w w'))
         case atStart => exact ⟨(0), (0), (caea), (caea), H', ⟨Nat.le_refl _⟩, ⟨by (with_reducible repeat (first | apply Kd.R_alloc | apply Kd.R_drewN | apply Kd.R_drew)); exact Kd.R_mono au.out (fun _ hk => hk.1)⟩, ⟨by (with_reducible repeat (first | apply Kd.V_alloc | apply Kd.V_drewN | apply Kd.V_drew)); exact Kd.V_mono ac.out (fun _ hk => ⟨hk.1, ⟨hk.2.2.1, ⟨hk.2.2.2.1, hk.2.2.2.2⟩⟩⟩)⟩, ⟨by (with_reducible repeat (first | apply Kd.V_alloc | apply Kd.V_drewN | apply Kd.V_drew)); exact Kd.V_mono aa.out (fun _ hk => ⟨hk.1, ⟨hk.2.2.1, ⟨hk.2.2.2.1, hk.2.2.2.2⟩⟩⟩)⟩, ⟨G.cb ah.out⟩, ⟨G.cb af.out⟩, ⟨G.cB HB.out⟩⟩
         case round =>
          clear H'; (try clear bW); obtain ⟨a8, ay, rfl, rfl, HA, db, au, ac, aa, ah, af, HB⟩ := hrel; cases gk with
          | zero => exact absurd HA.out (by simp [laws_loOdd.l2])
          | succ k3 =>
           have H := HA.out; clear HA; simp only [laws_loOdd.l2] at H
           by_cases bm : ay < (al.length : Int)
           ·rw [if_pos bm] at H; have cS : decide (ay < (al.length : Int)) = true := decide_eq_true bm; clear bm
            by_cases b2 : 0 ≤ ay
            ·rw [if_pos b2] at H; have d9 : decide (0 ≤ ay) = true := decide_eq_true b2; clear b2; have H' := G.m H; clear H; obtain ⟨eo, ep, dt⟩ := Kd.R_slice au.out; subst dt; have bN : 0 ≤ (ay : Int) := of_decide_eq_true (G.asm); have bO : ay < (al.length : Int) := of_decide_eq_true (G.asm); obtain ⟨d_, du, dE⟩ := Kd.at_int (Kd.R_reads' au.out).2.2 ay bN bO; cases du; replace bN := eq_true bN; replace bO := eq_true bO
             go_wp2
             go_roundg k3
             case measure => have := aJ.out; have := bh.out; have := db.out; omega
             case rel => exact ⟨(wrap64 (a8 + (Int.tmod (rd al ay) 2))), (wrap64 (ay + 1)), (caea), (caea), H', ⟨by have := aJ.out; have := bh.out; have := db.out; omega⟩, ⟨G.cR au.out⟩, ⟨G.cV ac.out⟩, ⟨G.cV aa.out⟩, ⟨G.cb ah.out⟩, ⟨G.cb af.out⟩, ⟨G.cB HB.out⟩⟩
            ·rw [if_neg b2] at H; exact absurd H (by simp)
           ·rw [if_neg bm] at H; have cS : decide (ay < (al.length : Int)) = false := decide_eq_false bm; clear bm; obtain rfl := Option.some.inj H; obtain ⟨eq, er, dv⟩ := Kd.R_slice au.out; subst dv
            go_wp2
            go_ret
            exact ⟨by first | rfl | (simp [errW_none, errW_some] <;> rfl) | (simp [*, errW_none, errW_some] <;> rfl), G.cB HB.out⟩
     ·rw [if_neg bA] at H; exact absurd H (by simp)
    ·rw [if_neg bz] at H; exact absurd H (by simp)

end Go.Proofs.YtjkeagcenmmknaaDoor.P
