-- Printed by a program of this session (mp.py, over the kit's print). Not trusted: Lean checks it.
import Derived.Test.YtjkeagcenmmknaaDoorF0
import Derived.Test.YtjkeagcenmmknaaDoorF3
import Derived.Test.YtjkeagcenmmknaaDoorF13
namespace Go.Proofs.YtjkeagcenmmknaaDoor.P
open Go.RowKit Go.Proofs.YtjkeagcenmmknaaDoorW.PrintWords Go.Proofs.YtjkeagcenmmknaaDoorW.PrintLast Go.Proofs.YtjkeagcenmmknaaDoorW.PrintMore
attribute [local go_sem] max2_int min2_int max_two min_two max_three min_three max_four min_four   -- for this text's walks alone
set_option linter.unusedVariables false
set_option linter.unusedSimpArgs false

theorem cabL {p : Prop} (h : p := by (with_reducible repeat (first | refine blk_drewN ?_ _ | refine blk_drew ?_ | refine blk_alloc ?_ _)); refine blk_put (cs := #[.int .i64 ((rd_T51 l1 ag).f0), .int .i64 0]) ?_ 1 _ rfl; (with_reducible repeat (first | refine blk_drewN ?_ _ | refine blk_drew ?_ | refine blk_alloc ?_ _)); refine blk_put (cs := #[.int .i64 0, .int .i64 0]) ?_ 0 _ rfl; (with_reducible repeat (first | refine blk_drewN ?_ _ | refine blk_drew ?_ | refine blk_alloc ?_ _)); exact ax.out) : p := h
theorem cabM {p : Prop} (h : p := by (with_reducible repeat (first | refine blk_drewN ?_ _ | refine blk_drew ?_ | refine blk_alloc ?_ _)); refine blk_far ?_ aq.out _; (with_reducible repeat (first | refine blk_drewN ?_ _ | refine blk_drew ?_ | refine blk_alloc ?_ _)); refine blk_far ?_ aq.out _; (with_reducible repeat (first | refine blk_drewN ?_ _ | refine blk_drew ?_ | refine blk_alloc ?_ _)); exact ah.out) : p := h
theorem cabN {p : Prop} (h : p := by (with_reducible repeat (first | apply Kd.R_alloc | apply Kd.R_drewN | apply Kd.R_drew)); exact (Kd.R_mono (Kd.R_far (p := ⟨aC, 1, none⟩) (Kd.R_far (p := ⟨aC, 0, none⟩) (Kd.R_types ap.out au.out (by decide)) (fun _ hk => hk.2) (.int .i64 ((rd_T51 l1 ac).f0))) (fun _ hk => hk.2) (.int .i64 ((rd_T51 l1 ac).f1))) (fun _ h_ => h_.1))) : p := h
theorem cabO {p : Prop} (h : p := by (try simp only [List.map_toArray, List.map_cons, List.map_nil]); first | done | (rw [show (l0.take (ae : Int).toNat).length = ae.toNat from (by rw [List.length_take]; have h_ : (ae : Int) ≤ (l0.length : Int) := of_decide_eq_true (G.asm); omega)] <;> rfl) | rfl | (simp only [List.length_drop, List.length_take]; rfl)) : p := h
theorem cabP {p : Prop} (h : p := by rw [hg]; exact Nat.ne_of_lt (blk_lt (g := am) (o := .cells #[.int .i64 af, .slice aj aa.length ak] 29 (0, 0)) (G.cb ah.out))) : p := h
theorem cabQ {p : Prop} (h : p := by rw [hg]; exact Nat.ne_of_gt (blk_lt (g := am) (o := .cells #[.int .i64 af, .slice aj aa.length ak] 29 (0, 0)) (G.cb ah.out))) : p := h
theorem cabK {p : Prop} (h : p := by first | rfl | (simp [errW_none, errW_some] <;> rfl) | (simp [*, errW_none, errW_some] <;> rfl)) : p := h
theorem cabI {p : Prop} (h : p := by first | rfl | (simp; done) | (simp [*]; done)) : p := h
theorem cabJ {p : Prop} (h : p := by rw [hg]; exact (below_size (G.cB HB.out))) : p := h
/-! ### impl_Net_own: function 61 -/
def impl_Net_own.l0 : Nat → List (S51) → List (S51) → Int → Int → Int → List (S51) → Option (Bool)
 | 0, _, _, _, _, _, _ => none
 | k + 1, x1, x7, x8, x9, bQ, bd => if x9 < x8 then (if 0 ≤ x9 then (if x9 < (x7.length : Int) then ((slices_Contains_impl_Tie_impl_Tie.f k bd ((rd_T51 x7 x9).f0) ((rd_T51 x7 x9).f1)).bind fun bm => (if bm = true then (impl_Net_own.l0 k x1 x7 x8 (wrap64 (x9 + 1)) bQ bd) else (some false))) else (none)) else (none)) else ((impl_ascending.f k x1).bind fun bn => (some bn))
def impl_Net_own.f (k : Nat) (af : Int) (aa : List (S51)) (l1 : List (S51)) : Option (Bool) := impl_Net_own.l0 k l1 l1 (l1.length : Int) 0 af aa
theorem impl_Net_own.mono_l : ∀ k, (∀ y0 y1 y2 y3 y4 y5, LeO (impl_Net_own.l0 k y0 y1 y2 y3 y4 y5) (impl_Net_own.l0 (k + 1) y0 y1 y2 y3 y4 y5))
 | 0 => fun _ _ _ _ _ _ r h => by simp [impl_Net_own.l0] at h
 | k + 1 => by
  have al := impl_Net_own.mono_l k
  ·intro y0 y1 y2 y3 y4 y5; unfold impl_Net_own.l0
   repeat' first
   | (with_reducible exact al _ _ _ _ _ _)
   | (with_reducible exact impl_ascending.mono _ _)
   | (with_reducible exact slices_Contains_impl_Tie_impl_Tie.mono _ _ _ _)
   | (with_reducible exact LeO.refl _)
   | (with_reducible exact LeO.none _)
   | (with_reducible refine LeO.ite ?_ ?_)
   | (with_reducible refine LeO.bind ?_ (fun _ => ?_))
   | exact al _ _ _ _ _ _
   | exact impl_ascending.mono _ _
   | exact slices_Contains_impl_Tie_impl_Tie.mono _ _ _ _
   | exact LeO.none _
   | refine LeO.ite ?_ ?_
   | refine LeO.bind ?_ (fun _ => ?_)
theorem impl_Net_own.mono : ∀ a0 a1 a2 k, LeO (impl_Net_own.f k a0 a1 a2) (impl_Net_own.f (k + 1) a0 a1 a2) := by
 intro a0 a1 a2 k; have al := impl_Net_own.mono_l k; unfold impl_Net_own.f
 repeat' first | (with_reducible first | exact al _ _ _ _ _ _ | exact impl_ascending.mono _ _ | exact slices_Contains_impl_Tie_impl_Tie.mono _ _ _ _ | exact LeO.refl _ | exact LeO.none _ | refine LeO.ite ?_ ?_ | refine LeO.bind ?_ (fun _ => ?_)) | exact al _ _ _ _ _ _ | exact impl_ascending.mono _ _ | exact slices_Contains_impl_Tie_impl_Tie.mono _ _ _ _ | exact LeO.none _ | refine LeO.ite ?_ ?_ | refine LeO.bind ?_ (fun _ => ?_)
set_option maxHeartbeats 8000000 in
set_option maxRecDepth 100000 in
theorem impl_Net_own.calls (k : Nat) (af : Int) (aj : Option Addr) (ak : Nat) (aa : List (S51)) (A1 : Option Addr) (c1 : Nat) (l1 : List (S51)) (r : Bool) (w : World) (aV : Kd.C k51 w aj aa.length aa) (aW : aa.length ≤ ak) (hr1 : Kd.C k51 w A1 l1.length l1) (bu : l1.length ≤ c1) (h : impl_Net_own.f k af aa l1 = some r) :
  Calls Tryd.prog 61 #[.agg #[.int .i64 af, .slice aj aa.length ak], .slice A1 l1.length c1] w fun e w' => e = .returned (.bool r) ∧ Below w.heap.size w w' := by
 have cp := Tryd.underlying29; have cq := Tryd.underlying51; have aI := G.m aV; have aJ := G.m aW; clear aV aW; have bf := G.m hr1; have bX := G.m bu; clear hr1 bu; have HB := G.m (Below.refl w.heap.size w); have H : (impl_Net_own.l0 k l1 l1 (l1.length : Int) 0 af aa) = some r := h; clear h; have H' := G.m H; clear H
 go_enter Tryd.func61, Tryd.ntmps61
 go_wp2_with (first | ((with_reducible refine G.h 2 rfl ?_); refine G.be 2 #[.int .i64 af, .slice aj aa.length ak] 29 ?_; intro am hg w3 hbox hb; have n0 := G.bs HB hb; have n1 := G.m (hbox); have n2 := G.m (cabJ : w.heap.size ≤ am); have n3 := G.m (cabJ : w.heap.size ≤ am); clear HB; revert n0 n1 n2 n3; intro HB ah dk dl; clear hb hbox hg))
 go_loopg [9] k (fun kq v9 w' => ∃ (ag : Int), v9 = .int .i64 ag ∧ Aside0 (impl_Net_own.l0 kq l1 l1 (l1.length : Int) ag af aa = some r) ∧ Aside0 (kq ≤ k) ∧ Aside0 (w'.heap[am]? = some (.cells #[.int .i64 af, (.slice aj aa.length ak)] 29 (0, 0))) ∧ Aside0 (Below w.heap.size w w'))
 case atStart => exact ⟨(0), (cabI), H', ⟨Nat.le_refl _⟩, ⟨G.cb ah.out⟩, ⟨G.cB HB.out⟩⟩
 case round =>
  clear H'; obtain ⟨ag, rfl, HA, a8, ah, HB⟩ := hrel; cases gk with
  | zero => exact absurd HA.out (by simp [impl_Net_own.l0])
  | succ k1 =>
   have H := HA.out; clear HA; simp only [impl_Net_own.l0] at H
   by_cases c4 : ag < (l1.length : Int)
   ·rw [if_pos c4] at H; have bA : decide (ag < (l1.length : Int)) = true := decide_eq_true c4; clear c4
    by_cases c5 : 0 ≤ ag
    ·rw [if_pos c5] at H; have bY : decide (0 ≤ ag) = true := decide_eq_true c5; clear c5
     by_cases c6 : ag < (l1.length : Int)
     ·rw [if_pos c6] at H; have bB : decide (ag < (l1.length : Int)) = true := decide_eq_true c6; clear c6; obtain ⟨bm, A7, H⟩ := G.bi H; replace H : (if bm = true then (impl_Net_own.l0 k1 l1 l1 (l1.length : Int) (wrap64 (ag + 1)) af aa) else (some false)) = some r := H
      by_cases c8 : bm = true
      ·subst c8; have H1 : (impl_Net_own.l0 k1 l1 l1 (l1.length : Int) (wrap64 (ag + 1)) af aa) = some r := by rw [if_pos rfl] at H; exact H
       clear H; have H := H1; clear H1; have H' := G.m H; clear H; have aM : 0 ≤ (ag : Int) := of_decide_eq_true (G.asm); have aN : ag < (l1.length : Int) := of_decide_eq_true (G.asm); obtain ⟨b9, bC, az, aA⟩ := at_T51 bf.out ag aM aN; cases bC; replace az := G.hx HB az; replace aA := G.hx HB aA; replace aM := eq_true aM; replace aN := eq_true aN
       go_wp2_with (first | ((with_reducible refine G.h 6 rfl ?_); refine G.be 6 #[.int .i64 0, .int .i64 0] 51 ?_; intro ao hg w9 hbox hb; have n0 := G.bb ah hb; have n1 := G.bs HB hb; have n2 := G.m (hbox); have n3 := G.m (cabJ : w.heap.size ≤ ao); have n4 := G.m (cabJ : w.heap.size ≤ ao); have n5 := G.m (cabP : am ≠ ao); have n6 := G.m (cabQ : ao ≠ am); clear ah HB; revert n0 n1 n2 n3 n4 n5 n6; intro ah HB ax b_ ca aq aE; clear hb hbox hg; have dn := aE.out; have dp := aq.out; have ⟨cA, cD, cE, cF⟩ := G.d2 (w := w9) ax; have ⟨bR, bS, bT, bU⟩ := G.d2 (w := w9) ah) | ((with_reducible refine G.f 75 rfl ?_); refine G.gL 16 Tryd.func75 #[.slice aj aa.length ak, .agg #[.int .i64 ((rd_T51 l1 ag).f0), .int .i64 ((rd_T51 l1 ag).f1)]] ?_; (with_reducible refine (slices_Contains_impl_Tie_impl_Tie.calls k1 _ _ aa ((rd_T51 l1 ag).f0) ((rd_T51 l1 ag).f1) true _ ?side1 ?side2 A7.out).mono ?_); (case side1 => exact Kd.C_below aI.out (G.cB HB.out)); (case side2 => exact aJ.out); rintro e cZ ⟨rfl, hb⟩; refine ⟨_, rfl, ?_⟩; have n0 := G.m (blk_below (g := am) (o := .cells #[.int .i64 af, .slice aj aa.length ak] 29 (0, 0)) (cabM) hb); have n1 := G.m (blk_below (g := ao) (o := .cells #[.int .i64 ((rd_T51 l1 ag).f0), .int .i64 ((rd_T51 l1 ag).f1)] 51 (0, 0)) (cabL) hb); have n2 := G.bs HB hb; clear ah ax HB; revert n0 n1 n2; intro ah ax HB; (try clear hb)))
       go_roundg k1
       case measure => have := a8.out; omega
       case rel => exact ⟨(wrap64 (ag + 1)), (cabI), H', ⟨by have := a8.out; omega⟩, ⟨G.cb ah.out⟩, ⟨G.cB HB.out⟩⟩
      ·replace c8 := Bool.eq_false_iff.mpr c8; subst c8; have H1 : (some false) = some r := by rw [if_neg (show ¬ (false = true) by decide)] at H; exact H
       clear H; have H := H1; clear H1; obtain rfl := Option.some.inj H; have aM : 0 ≤ (ag : Int) := of_decide_eq_true (G.asm); have aN : ag < (l1.length : Int) := of_decide_eq_true (G.asm); obtain ⟨b9, bC, az, aA⟩ := at_T51 bf.out ag aM aN; cases bC; replace az := G.hx HB az; replace aA := G.hx HB aA; replace aM := eq_true aM; replace aN := eq_true aN
       go_wp2_with (first | ((with_reducible refine G.h 6 rfl ?_); refine G.be 6 #[.int .i64 0, .int .i64 0] 51 ?_; intro ao hg cj hbox hb; have n0 := G.bb ah hb; have n1 := G.bs HB hb; have n2 := G.m (hbox); have n3 := G.m (cabJ : w.heap.size ≤ ao); have n4 := G.m (cabJ : w.heap.size ≤ ao); have n5 := G.m (cabP : am ≠ ao); have n6 := G.m (cabQ : ao ≠ am); clear ah HB; revert n0 n1 n2 n3 n4 n5 n6; intro ah HB ax b_ ca aq aE; clear hb hbox hg; have dq := aE.out; have dr := aq.out; have ⟨cG, cH, cI, cJ⟩ := G.d2 (w := cj) ax; have ⟨cL, cM, cN, cO⟩ := G.d2 (w := cj) ah) | ((with_reducible refine G.f 75 rfl ?_); refine G.gL 16 Tryd.func75 #[.slice aj aa.length ak, .agg #[.int .i64 ((rd_T51 l1 ag).f0), .int .i64 ((rd_T51 l1 ag).f1)]] ?_; (with_reducible refine (slices_Contains_impl_Tie_impl_Tie.calls k1 _ _ aa ((rd_T51 l1 ag).f0) ((rd_T51 l1 ag).f1) false _ ?side1 ?side2 A7.out).mono ?_); (case side1 => exact Kd.C_below aI.out (G.cB HB.out)); (case side2 => exact aJ.out); rintro e dH ⟨rfl, hb⟩; refine ⟨_, rfl, ?_⟩; have n0 := G.m (blk_below (g := am) (o := .cells #[.int .i64 af, .slice aj aa.length ak] 29 (0, 0)) (cabM) hb); have n1 := G.m (blk_below (g := ao) (o := .cells #[.int .i64 ((rd_T51 l1 ag).f0), .int .i64 ((rd_T51 l1 ag).f1)] 51 (0, 0)) (cabL) hb); have n2 := G.bs HB hb; clear ah ax HB; revert n0 n1 n2; intro ah ax HB; (try clear hb)))
       go_ret
       exact ⟨cabK, G.cB HB.out⟩
     ·rw [if_neg c6] at H; exact absurd H (by simp)
    ·rw [if_neg c5] at H; exact absurd H (by simp)
   ·rw [if_neg c4] at H; have bA : decide (ag < (l1.length : Int)) = false := decide_eq_false c4; clear c4; obtain ⟨bn, c_, H⟩ := G.bi H; replace H : (some bn) = some r := H; obtain rfl := Option.some.inj H
    go_wp2_with (first | ((with_reducible refine G.f 73 rfl ?_); refine G.gL 20 Tryd.func73 #[.slice A1 l1.length c1] ?_; (with_reducible refine (impl_ascending.calls k1 _ _ l1 bn _ ?side1 ?side2 c_.out).mono ?_); (case side1 => exact G.cC (Kd.C_below bf.out HB.out)); (case side2 => exact bX.out); rintro e dI ⟨rfl, hb⟩; refine ⟨_, rfl, ?_⟩; have n0 := G.bb ah hb; have n1 := G.bs HB hb; clear ah HB; revert n0 n1; intro ah HB; (try clear hb)))
    go_ret
    exact ⟨cabK, G.cB HB.out⟩

/-! ### slices_Index_int_int: function 96 -/
def slices_Index_int_int.l0 : Nat → List Int → Int → Int → Int → Option (Int)
 | 0, _, _, _, _ => none
 | k + 1, x0, x1, x7, x8 => if x8 < x7 then (if 0 ≤ x8 then (if x8 < (x0.length : Int) then (if x1 = (rd x0 x8) then (some x8) else (slices_Index_int_int.l0 k x0 x1 x7 (wrap64 (x8 + 1)))) else (none)) else (none)) else (some (-1))
def slices_Index_int_int.f (k : Nat) (l0 : List Int) (a1 : Int) : Option (Int) := slices_Index_int_int.l0 k l0 a1 (l0.length : Int) 0
theorem slices_Index_int_int.mono_l : ∀ k, (∀ y0 y1 y2 y3, LeO (slices_Index_int_int.l0 k y0 y1 y2 y3) (slices_Index_int_int.l0 (k + 1) y0 y1 y2 y3))
 | 0 => fun _ _ _ _ r h => by simp [slices_Index_int_int.l0] at h
 | k + 1 => by
  have al := slices_Index_int_int.mono_l k
  ·intro y0 y1 y2 y3; unfold slices_Index_int_int.l0
   repeat' first
   | (with_reducible exact al _ _ _ _)
   | (with_reducible exact LeO.refl _)
   | (with_reducible exact LeO.none _)
   | (with_reducible refine LeO.ite ?_ ?_)
   | (with_reducible refine LeO.bind ?_ (fun _ => ?_))
   | exact al _ _ _ _
   | exact LeO.none _
   | refine LeO.ite ?_ ?_
   | refine LeO.bind ?_ (fun _ => ?_)
theorem slices_Index_int_int.mono : ∀ a0 a1 k, LeO (slices_Index_int_int.f k a0 a1) (slices_Index_int_int.f (k + 1) a0 a1) := by
 intro a0 a1 k; have al := slices_Index_int_int.mono_l k; unfold slices_Index_int_int.f
 repeat' first | (with_reducible first | exact al _ _ _ _ | exact LeO.refl _ | exact LeO.none _ | refine LeO.ite ?_ ?_ | refine LeO.bind ?_ (fun _ => ?_)) | exact al _ _ _ _ | exact LeO.none _ | refine LeO.ite ?_ ?_ | refine LeO.bind ?_ (fun _ => ?_)
set_option maxHeartbeats 8000000 in
set_option maxRecDepth 100000 in
theorem slices_Index_int_int.calls (k : Nat) (A0 : Option Addr) (c0 : Nat) (l0 : List Int) (a1 : Int) (r : Int) (w : World) (a9 : Kd.C (Kd.int .i64) w A0 l0.length l0) (a_ : l0.length ≤ c0) (h : slices_Index_int_int.f k l0 a1 = some r) :
  Calls Tryd.prog 96 #[.slice A0 l0.length c0, .int .i64 a1] w fun e w' => e = .returned (.int .i64 r) ∧ Drawn0 w w' := by
 have aX := G.m a9; have bv := G.m a_; clear a9 a_; have H : (slices_Index_int_int.l0 k l0 a1 (l0.length : Int) 0) = some r := h; clear h; have H' := G.m H; clear H
 go_enter Tryd.func96, Tryd.ntmps96
 go_wp2
 go_loopg [8] k (fun kq v8 w' => ∃ (ai : Int), v8 = .int .i64 ai ∧ Aside0 (slices_Index_int_int.l0 kq l0 a1 (l0.length : Int) ai = some r) ∧ Aside0 (kq ≤ k) ∧ Drawn0 w w')
 case atStart => exact ⟨(0), (cabI), H', ⟨Nat.le_refl _⟩, by repeat (first | exact Drawn0.refl _ | apply Drawn0.step)⟩
 case round =>
  clear H'; try clear p2
  obtain ⟨ai, rfl, HA, a8, ⟨m1, rfl⟩⟩ := hrel; cases gk with
  | zero => exact absurd HA.out (by simp [slices_Index_int_int.l0])
  | succ k1 =>
   have H := HA.out; clear HA; simp only [slices_Index_int_int.l0] at H
   by_cases c3 : ai < (l0.length : Int)
   ·rw [if_pos c3] at H; have bZ : decide (ai < (l0.length : Int)) = true := decide_eq_true c3; clear c3
    by_cases c4 : 0 ≤ ai
    ·rw [if_pos c4] at H; have bA : decide (0 ≤ ai) = true := decide_eq_true c4; clear c4
     by_cases c5 : ai < (l0.length : Int)
     ·rw [if_pos c5] at H; have bY : decide (ai < (l0.length : Int)) = true := decide_eq_true c5; clear c5
      by_cases c6 : a1 = (rd l0 ai)
      ·rw [if_pos c6] at H; have bB : (a1 == (rd l0 ai)) = true := beq_iff_eq.mpr c6; have b1 : (a1 != (rd l0 ai)) = false := bne_eq_false_iff_eq.mpr c6; clear c6; obtain rfl := Option.some.inj H; have aP : 0 ≤ (ai : Int) := of_decide_eq_true (G.asm); have aQ : ai < (l0.length : Int) := of_decide_eq_true (G.asm); obtain ⟨cd, bD, bV⟩ := Kd.at_int aX.out ai aP aQ; cases bD; replace aP := eq_true aP; replace aQ := eq_true aQ
       go_wp2
       go_ret
       exact ⟨cabI, by repeat (first | exact Drawn0.refl _ | apply Drawn0.step)⟩
      ·rw [if_neg c6] at H; have bB : (a1 == (rd l0 ai)) = false := beq_eq_false_iff_ne.mpr c6; have b1 : (a1 != (rd l0 ai)) = true := bne_iff_ne.mpr c6; have H' := G.m H; clear H; have aP : 0 ≤ (ai : Int) := of_decide_eq_true (G.asm); have aQ : ai < (l0.length : Int) := of_decide_eq_true (G.asm); obtain ⟨cd, bD, bV⟩ := Kd.at_int aX.out ai aP aQ; cases bD; replace aP := eq_true aP; replace aQ := eq_true aQ
       go_wp2
       go_roundg k1
       case measure => have := a8.out; omega
       case rel => exact ⟨(wrap64 (ai + 1)), (cabI), H', ⟨by have := a8.out; omega⟩, by repeat (first | exact Drawn0.refl _ | apply Drawn0.step)⟩
     ·rw [if_neg c5] at H; exact absurd H (by simp)
    ·rw [if_neg c4] at H; exact absurd H (by simp)
   ·rw [if_neg c3] at H; have bZ : decide (ai < (l0.length : Int)) = false := decide_eq_false c3; clear c3; obtain rfl := Option.some.inj H
    go_wp2
    go_ret
    exact ⟨cabI, by repeat (first | exact Drawn0.refl _ | apply Drawn0.step)⟩

/-! ### slices_Contains_int_int: function 83 -/
def slices_Contains_int_int.f (k : Nat) (l0 : List Int) (a1 : Int) : Option (Bool) := (slices_Index_int_int.f k l0 a1).bind fun a5 => (some (decide (a5 ≥ 0)))
theorem slices_Contains_int_int.mono : ∀ a0 a1 k, LeO (slices_Contains_int_int.f k a0 a1) (slices_Contains_int_int.f (k + 1) a0 a1) := by
 intro a0 a1 k; unfold slices_Contains_int_int.f
 repeat' first | (with_reducible first | exact slices_Index_int_int.mono _ _ _ | exact LeO.refl _ | exact LeO.none _ | refine LeO.ite ?_ ?_ | refine LeO.bind ?_ (fun _ => ?_)) | exact slices_Index_int_int.mono _ _ _ | exact LeO.none _ | refine LeO.ite ?_ ?_ | refine LeO.bind ?_ (fun _ => ?_)
set_option maxHeartbeats 8000000 in
set_option maxRecDepth 100000 in
theorem slices_Contains_int_int.calls (k : Nat) (A0 : Option Addr) (c0 : Nat) (l0 : List Int) (a1 : Int) (r : Bool) (w : World) (a9 : Kd.C (Kd.int .i64) w A0 l0.length l0) (a_ : l0.length ≤ c0) (h : slices_Contains_int_int.f k l0 a1 = some r) :
  Calls Tryd.prog 83 #[.slice A0 l0.length c0, .int .i64 a1] w fun e w' => e = .returned (.bool r) ∧ Drawn0 w w' := by
 have aX := G.m a9; have bv := G.m a_; clear a9 a_; have H : ((slices_Index_int_int.f k l0 a1).bind fun a5 => (some (decide (a5 ≥ 0)))) = some r := h; clear h; obtain ⟨a5, A3, H⟩ := G.bi H; replace H : (some (decide (a5 ≥ 0))) = some r := H; obtain rfl := Option.some.inj H
 go_enter Tryd.func83, Tryd.ntmps83
 go_wp2_with (first | ((with_reducible refine G.f 96 rfl ?_); refine G.gL 7 Tryd.func96 #[.slice A0 l0.length c0, .int .i64 a1] ?_; (with_reducible refine (slices_Index_int_int.calls k _ _ l0 a1 a5 _ ?side1 ?side2 A3.out).mono ?_); (case side1 => exact G.cC aX.out); (case side2 => exact bv.out); rintro e w' ⟨rfl, ⟨nd, rfl⟩⟩; refine ⟨_, rfl, ?_⟩))
 go_ret
 exact ⟨cabI, by repeat (first | exact Drawn0.refl _ | apply Drawn0.step)⟩

/-! ### impl_different: function 62 -/
def impl_different.l0 : Nat → List Int → List Int → Int → Int → Option (Bool)
 | 0, _, _, _, _ => none
 | k + 1, x0, x5, x6, x7 => if x7 < x6 then (if 0 ≤ x7 then (if x7 < (x5.length : Int) then (if x7 ≤ (x0.length : Int) then ((slices_Contains_int_int.f k (x0.take (x7 : Int).toNat) (rd x5 x7)).bind fun bo => (if bo = true then (some false) else (impl_different.l0 k x0 x5 x6 (wrap64 (x7 + 1))))) else (none)) else (none)) else (none)) else (some true)
def impl_different.f (k : Nat) (l0 : List Int) : Option (Bool) := impl_different.l0 k l0 l0 (l0.length : Int) 0
theorem impl_different.mono_l : ∀ k, (∀ y0 y1 y2 y3, LeO (impl_different.l0 k y0 y1 y2 y3) (impl_different.l0 (k + 1) y0 y1 y2 y3))
 | 0 => fun _ _ _ _ r h => by simp [impl_different.l0] at h
 | k + 1 => by
  have al := impl_different.mono_l k
  ·intro y0 y1 y2 y3; unfold impl_different.l0
   repeat' first
   | (with_reducible exact al _ _ _ _)
   | (with_reducible exact slices_Contains_int_int.mono _ _ _)
   | (with_reducible exact LeO.refl _)
   | (with_reducible exact LeO.none _)
   | (with_reducible refine LeO.ite ?_ ?_)
   | (with_reducible refine LeO.bind ?_ (fun _ => ?_))
   | exact al _ _ _ _
   | exact slices_Contains_int_int.mono _ _ _
   | exact LeO.none _
   | refine LeO.ite ?_ ?_
   | refine LeO.bind ?_ (fun _ => ?_)
theorem impl_different.mono : ∀ a0 k, LeO (impl_different.f k a0) (impl_different.f (k + 1) a0) := by
 intro a0 k; have al := impl_different.mono_l k; unfold impl_different.f
 repeat' first | (with_reducible first | exact al _ _ _ _ | exact slices_Contains_int_int.mono _ _ _ | exact LeO.refl _ | exact LeO.none _ | refine LeO.ite ?_ ?_ | refine LeO.bind ?_ (fun _ => ?_)) | exact al _ _ _ _ | exact slices_Contains_int_int.mono _ _ _ | exact LeO.none _ | refine LeO.ite ?_ ?_ | refine LeO.bind ?_ (fun _ => ?_)
set_option maxHeartbeats 8000000 in
set_option maxRecDepth 100000 in
theorem impl_different.calls (k : Nat) (A0 : Option Addr) (c0 : Nat) (l0 : List Int) (r : Bool) (w : World) (a9 : Kd.C (Kd.int .i64) w A0 l0.length l0) (a_ : l0.length ≤ c0) (h : impl_different.f k l0 = some r) :
  Calls Tryd.prog 62 #[.slice A0 l0.length c0] w fun e w' => e = .returned (.bool r) ∧ Drawn0 w w' := by
 have aX := G.m a9; have bv := G.m a_; clear a9 a_; have H : (impl_different.l0 k l0 l0 (l0.length : Int) 0) = some r := h; clear h; have H' := G.m H; clear H
 go_enter Tryd.func62, Tryd.ntmps62
 go_wp2
 go_loopg [7] k (fun kq v7 w' => ∃ (ae : Int), v7 = .int .i64 ae ∧ Aside0 (impl_different.l0 kq l0 l0 (l0.length : Int) ae = some r) ∧ Aside0 (kq ≤ k) ∧ Drawn0 w w')
 case atStart => exact ⟨(0), (cabI), H', ⟨Nat.le_refl _⟩, by repeat (first | exact Drawn0.refl _ | apply Drawn0.step)⟩
 case round =>
  clear H'; obtain ⟨ae, rfl, HA, a8, ⟨m1, rfl⟩⟩ := hrel; cases gk with
  | zero => exact absurd HA.out (by simp [impl_different.l0])
  | succ k1 =>
   have H := HA.out; clear HA; simp only [impl_different.l0] at H
   by_cases c2 : ae < (l0.length : Int)
   ·rw [if_pos c2] at H; have cr : decide (ae < (l0.length : Int)) = true := decide_eq_true c2; clear c2
    by_cases c3 : 0 ≤ ae
    ·rw [if_pos c3] at H; have bZ : decide (0 ≤ ae) = true := decide_eq_true c3; clear c3
     by_cases c4 : ae < (l0.length : Int)
     ·rw [if_pos c4] at H; have bA : decide (ae < (l0.length : Int)) = true := decide_eq_true c4; clear c4; have bY := eq_true (of_decide_eq_true (G.asm) : 0 ≤ ae)
      by_cases c6 : ae ≤ (l0.length : Int)
      ·rw [if_pos c6] at H; have bB := eq_true c6; have b1 : decide (ae ≤ (l0.length : Int)) = true := decide_eq_true c6; clear c6; obtain ⟨bo, A7, H⟩ := G.bi H; replace H : (if bo = true then (some false) else (impl_different.l0 k1 l0 l0 (l0.length : Int) (wrap64 (ae + 1)))) = some r := H
       by_cases c8 : bo = true
       ·subst c8; have H1 : (some false) = some r := by rw [if_pos rfl] at H; exact H
        clear H; have H := H1; clear H1; obtain rfl := Option.some.inj H; have aT : 0 ≤ (ae : Int) := of_decide_eq_true (G.asm); have aU : ae < (l0.length : Int) := of_decide_eq_true (G.asm); obtain ⟨aY, bE, bW⟩ := Kd.at_int aX.out ae aT aU; cases bE; replace aT := eq_true aT; replace aU := eq_true aU; obtain ⟨dJ, b2, _, b3, _⟩ := info_parts info3; obtain ⟨dt, ck, cl⟩ := print_take_of (P := Tryd.prog) (Value.int .i64) 0 37 3 .i64 Tryd.underlying37 b2 b3 (some aY) c0 l0 ae (of_decide_eq_true (G.asm)) (of_decide_eq_true (G.asm)) bv.out; have bp := G.m (Kd.C_of_reads (h1 := fun _ => rfl) (ck _ (Kd.reads_of_C aX.out))); have bq := G.m cl; clear ck cl b2 b3
        go_wp2_with (first | ((with_reducible refine gate_callee (f := 83) rfl ?_); refine goesL_ (some 16) rfl rfl Tryd.func83 (by kernel_rfl) rfl #[.slice (some aY) (l0.take (ae : Int).toNat).length c0, .int .i64 (rd l0 ae)] rfl (cabO) ?_; (with_reducible refine (slices_Contains_int_int.calls k1 _ _ (l0.take (ae : Int).toNat) (rd l0 ae) true _ ?side1 ?side2 A7.out).mono ?_); (case side1 => exact G.cC bp.out); (case side2 => exact bq.out); rintro e w' ⟨rfl, ⟨nd, rfl⟩⟩; refine ⟨_, rfl, ?_⟩))
        go_ret
        exact ⟨cabI, by repeat (first | exact Drawn0.refl _ | apply Drawn0.step)⟩
       ·replace c8 := Bool.eq_false_iff.mpr c8; subst c8; have H1 : (impl_different.l0 k1 l0 l0 (l0.length : Int) (wrap64 (ae + 1))) = some r := by rw [if_neg (show ¬ (false = true) by decide)] at H; exact H
        clear H; have H := H1; clear H1; have H' := G.m H; clear H; have aT : 0 ≤ (ae : Int) := of_decide_eq_true (G.asm); have aU : ae < (l0.length : Int) := of_decide_eq_true (G.asm); obtain ⟨aY, bE, bW⟩ := Kd.at_int aX.out ae aT aU; cases bE; replace aT := eq_true aT; replace aU := eq_true aU; obtain ⟨dD, bH, _, bI, _⟩ := info_parts info3; obtain ⟨da, b4, b5⟩ := print_take_of (P := Tryd.prog) (Value.int .i64) 0 37 3 .i64 Tryd.underlying37 bH bI (some aY) c0 l0 ae (of_decide_eq_true (G.asm)) (of_decide_eq_true (G.asm)) bv.out; have bp := G.m (Kd.C_of_reads (h1 := fun _ => rfl) (b4 _ (Kd.reads_of_C aX.out))); have bq := G.m b5; clear b4 b5 bH bI
        go_wp2_with (first | ((with_reducible refine gate_callee (f := 83) rfl ?_); refine goesL_ (some 16) rfl rfl Tryd.func83 (by kernel_rfl) rfl #[.slice (some aY) (l0.take (ae : Int).toNat).length c0, .int .i64 (rd l0 ae)] rfl (cabO) ?_; (with_reducible refine (slices_Contains_int_int.calls k1 _ _ (l0.take (ae : Int).toNat) (rd l0 ae) false _ ?side1 ?side2 A7.out).mono ?_); (case side1 => exact G.cC bp.out); (case side2 => exact bq.out); rintro e w' ⟨rfl, ⟨nd, rfl⟩⟩; refine ⟨_, rfl, ?_⟩))
        go_roundg k1
        case measure => have := a8.out; omega
        case rel => exact ⟨(wrap64 (ae + 1)), (cabI), H', ⟨by have := a8.out; omega⟩, by repeat (first | exact Drawn0.refl _ | apply Drawn0.step)⟩
      ·rw [if_neg c6] at H; exact absurd H (by simp)
     ·rw [if_neg c4] at H; exact absurd H (by simp)
    ·rw [if_neg c3] at H; exact absurd H (by simp)
   ·rw [if_neg c2] at H; have cr : decide (ae < (l0.length : Int)) = false := decide_eq_false c2; clear c2; obtain rfl := Option.some.inj H
    go_wp2
    go_ret
    exact ⟨cabI, by repeat (first | exact Drawn0.refl _ | apply Drawn0.step)⟩

/-! ### impl_PairOk: function 34 -/
mutual
def impl_PairOk.j0 : Nat → List (S51) → Bool → Option (Bool)
 | 0, _, _ => none
 | k + 1, x1, db => if db = true then (some false) else (impl_PairOk.l0 k (([] : List Int)) x1 (x1.length : Int) 0)
def impl_PairOk.l0 : Nat → List Int → List (S51) → Int → Int → Option (Bool)
 | 0, _, _, _, _ => none
 | k + 1, x5, bJ, cm, bh => if bh < cm then (if 0 ≤ bh then (if bh < (bJ.length : Int) then ((some (([(rd_T51 bJ bh).f0, (rd_T51 bJ bh).f1] : List Int) : List Int)).bind fun aD => (if x5.length + aD.length < 17592186044416 then (impl_PairOk.l0 k (x5 ++ aD) bJ cm (wrap64 (bh + 1))) else (none))) else (none)) else (none)) else ((impl_different.f k x5).bind fun br => (some br))
end
def impl_PairOk.f (k : Nat) (af : Int) (aa : List (S51)) (l1 : List (S51)) : Option (Bool) := (impl_NetOk.f k af aa).bind fun a6 => (if a6 = true then ((impl_Net_own.f k af aa l1).bind fun aw => (impl_PairOk.j0 k l1 (!aw))) else (impl_PairOk.j0 k l1 true))
theorem impl_PairOk.mono_l : ∀ k, (∀ y0 y1, LeO (impl_PairOk.j0 k y0 y1) (impl_PairOk.j0 (k + 1) y0 y1)) ∧ (∀ y0 y1 y2 y3, LeO (impl_PairOk.l0 k y0 y1 y2 y3) (impl_PairOk.l0 (k + 1) y0 y1 y2 y3))
 | 0 => ⟨fun _ _ r h => by simp [impl_PairOk.j0] at h, fun _ _ _ _ r h => by simp [impl_PairOk.l0] at h⟩
 | k + 1 => by
  obtain ⟨al, bw⟩ := impl_PairOk.mono_l k; refine ⟨?_, ?_⟩ <;> intros
  all_goals first | unfold impl_PairOk.j0 | unfold impl_PairOk.l0
  repeat' first | (with_reducible first | exact al _ _ | exact bw _ _ _ _ | exact impl_NetOk.mono _ _ _ | exact impl_Net_own.mono _ _ _ _ | exact impl_different.mono _ _ | exact LeO.refl _ | exact LeO.none _ | refine LeO.ite ?_ ?_ | refine LeO.bind ?_ (fun _ => ?_)) | exact al _ _ | exact bw _ _ _ _ | exact impl_NetOk.mono _ _ _ | exact impl_Net_own.mono _ _ _ _ | exact impl_different.mono _ _ | exact LeO.none _ | refine LeO.ite ?_ ?_ | refine LeO.bind ?_ (fun _ => ?_)
theorem impl_PairOk.mono : ∀ a0 a1 a2 k, LeO (impl_PairOk.f k a0 a1 a2) (impl_PairOk.f (k + 1) a0 a1 a2) := by
 intro a0 a1 a2 k; obtain ⟨al, bw⟩ := impl_PairOk.mono_l k; unfold impl_PairOk.f
 repeat' first | (with_reducible first | exact al _ _ | exact bw _ _ _ _ | exact impl_NetOk.mono _ _ _ | exact impl_Net_own.mono _ _ _ _ | exact impl_different.mono _ _ | exact LeO.refl _ | exact LeO.none _ | refine LeO.ite ?_ ?_ | refine LeO.bind ?_ (fun _ => ?_)) | exact al _ _ | exact bw _ _ _ _ | exact impl_NetOk.mono _ _ _ | exact impl_Net_own.mono _ _ _ _ | exact impl_different.mono _ _ | exact LeO.none _ | refine LeO.ite ?_ ?_ | refine LeO.bind ?_ (fun _ => ?_)
set_option maxHeartbeats 8000000 in
set_option maxRecDepth 100000 in
theorem impl_PairOk.calls (k : Nat) (af : Int) (aj : Option Addr) (ak : Nat) (aa : List (S51)) (A1 : Option Addr) (c1 : Nat) (l1 : List (S51)) (r : Bool) (w : World) (aV : Kd.C k51 w aj aa.length aa) (aW : aa.length ≤ ak) (hr1 : Kd.C k51 w A1 l1.length l1) (bu : l1.length ≤ c1) (h : impl_PairOk.f k af aa l1 = some r) :
  Calls Tryd.prog 34 #[.agg #[.int .i64 af, .slice aj aa.length ak], .slice A1 l1.length c1] w fun e w' => e = .returned (.bool r) ∧ Below w.heap.size w w' := by
 have cp := Tryd.underlying29; have cq := Tryd.underlying51; have aI := G.m aV; have aJ := G.m aW; clear aV aW; have bf := G.m hr1; have bX := G.m bu; clear hr1 bu; have HB := G.m (Below.refl w.heap.size w); have H : ((impl_NetOk.f k af aa).bind fun a6 => (if a6 = true then ((impl_Net_own.f k af aa l1).bind fun aw => (impl_PairOk.j0 k l1 (!aw))) else (impl_PairOk.j0 k l1 true))) = some r := h; clear h; have b6 := G.m H; clear H
 go_enter Tryd.func34, Tryd.ntmps34
 go_upto_region 1 with (first | ((with_reducible refine G.h 2 rfl ?_); refine G.be 2 #[.int .i64 af, .slice aj aa.length ak] 29 ?_; intro av hg w4 hbox hb; have n0 := G.bs HB hb; have n1 := G.m (hbox); have n2 := G.m (cabJ : w.heap.size ≤ av); have n3 := G.m (cabJ : w.heap.size ≤ av); clear HB; revert n0 n1 n2 n3; intro HB ab du dv; clear hb hbox hg))
 (try simp only [Act.put, List.setIfInBounds_toArray, List.set_cons_zero, List.set_cons_succ])
 go_cut [16] (fun dc wc => ∃ (kq : Nat) (ba : Bool), dc = .bool ba ∧ Aside0 (impl_PairOk.j0 kq l1 ba = some r) ∧ Aside0 (kq ≤ k) ∧ Aside0 (wc.heap[av]? = some (.cells #[.int .i64 af, (.slice aj aa.length ak)] 29 (0, 0))) ∧ Aside0 (Below w.heap.size w wc))
 case first =>
  have H := b6.out; clear b6; obtain ⟨a6, A5, H⟩ := G.bi H; replace H : (if a6 = true then ((impl_Net_own.f k af aa l1).bind fun aw => (impl_PairOk.j0 k l1 (!aw))) else (impl_PairOk.j0 k l1 true)) = some r := H
  by_cases c6 : a6 = true
  ·subst c6; have H1 : ((impl_Net_own.f k af aa l1).bind fun aw => (impl_PairOk.j0 k l1 (!aw))) = some r := by rw [if_pos rfl] at H; exact H
   clear H; have H := H1; clear H1; obtain ⟨aw, A7, H⟩ := G.bi H; replace H : (impl_PairOk.j0 k l1 (!aw)) = some r := H; have H' := G.m H; clear H; have ⟨dd, de, df, dg⟩ := G.d2 (w := w4) ab
   go_wp2_with (first | ((with_reducible refine G.f 48 rfl ?_); refine G.gL 9 Tryd.func48 #[.agg #[.int .i64 af, .slice aj aa.length ak]] ?_; (with_reducible refine (impl_NetOk.calls k af _ _ aa true _ ?side1 ?side2 A5.out).mono ?_); (case side1 => exact G.cC (Kd.C_below aI.out HB.out)); (case side2 => exact aJ.out); rintro e w9 ⟨rfl, hb⟩; refine ⟨_, rfl, ?_⟩; have n0 := G.bb ab hb; have n1 := G.bs HB hb; clear ab HB; revert n0 n1; intro ab HB; (try clear hb); have ⟨cP, cQ, cS, cT⟩ := G.d2 (w := w9) ab) | (go_at_call 61; (with_reducible refine (impl_Net_own.calls k af _ _ aa _ _ l1 aw _ ?side1 ?side2 ?side3 ?side4 A7.out).mono ?_); (case side1 => exact G.cC (Kd.C_below aI.out HB.out)); (case side2 => exact aJ.out); (case side3 => exact G.cC (Kd.C_below bf.out HB.out)); (case side4 => exact bX.out); rintro e dK ⟨rfl, hb⟩; have n0 := G.bb ab hb; have n1 := G.bs HB hb; clear ab HB; revert n0 n1; intro ab HB; (try clear hb)))
   go_meet
   case rel => exact ⟨_, (!aw), (cabI), H', ⟨by first | omega | exact Nat.le_refl _⟩, ⟨G.cb ab.out⟩, ⟨G.cB HB.out⟩⟩
  ·replace c6 := Bool.eq_false_iff.mpr c6; subst c6; have H1 : (impl_PairOk.j0 k l1 true) = some r := by rw [if_neg (show ¬ (false = true) by decide)] at H; exact H
   clear H; have H := H1; clear H1; have H' := G.m H; clear H; have ⟨bR, bS, bT, bU⟩ := G.d2 (w := w4) ab
   go_wp2_with (first | ((with_reducible refine G.f 48 rfl ?_); refine G.gL 9 Tryd.func48 #[.agg #[.int .i64 af, .slice aj aa.length ak]] ?_; (with_reducible refine (impl_NetOk.calls k af _ _ aa false _ ?side1 ?side2 A5.out).mono ?_); (case side1 => exact G.cC (Kd.C_below aI.out HB.out)); (case side2 => exact aJ.out); rintro e cZ ⟨rfl, hb⟩; refine ⟨_, rfl, ?_⟩; have n0 := G.bb ab hb; have n1 := G.bs HB hb; clear ab HB; revert n0 n1; intro ab HB; (try clear hb)))
   go_meet
   case rel => exact ⟨_, (true), (cabI), H', ⟨by first | omega | exact Nat.le_refl _⟩, ⟨G.cb ab.out⟩, ⟨G.cB HB.out⟩⟩
 case rest =>
  clear b6; obtain ⟨kq, ba, rfl, HA, cn, ab, HB⟩ := hcut; cases kq with
  | zero => exact absurd HA.out (by simp [impl_PairOk.j0])
  | succ bK =>
   have H := HA.out; clear HA; simp only [impl_PairOk.j0] at H
   by_cases bx : ba = true
   ·subst bx; have H1 : (some false) = some r := by rw [if_pos rfl] at H; exact H
    clear H; have H := H1; clear H1; obtain rfl := Option.some.inj H
    go_wp2
    go_ret
    exact ⟨cabK, G.cB HB.out⟩
   ·replace bx := Bool.eq_false_iff.mpr bx; subst bx; have H1 : (impl_PairOk.l0 bK (([] : List Int)) l1 (l1.length : Int) 0) = some r := by rw [if_neg (show ¬ (false = true) by decide)] at H; exact H
    clear H; have H := H1; clear H1; obtain ⟨b7, aZ⟩ : ∃ y_ : List Int, y_ = (([] : List Int)) := ⟨_, rfl⟩; replace H : (impl_PairOk.l0 bK b7 l1 (l1.length : Int) 0) = some r := by first | (rw [aZ]; with_reducible exact H) | (have aG := (Option.bind_some _ _).symm.trans H; rw [aZ]; with_reducible exact aG) | (have aG := (Option.bind_some _ _).symm.trans H; with_reducible exact aG) | with_reducible exact H | (rw [aZ]; exact H) | exact H
    have bL := G.m aZ; clear aZ; have H' := G.m H; clear H
    go_wp2_with (first | ((with_reducible refine G.h 17 rfl ?_); refine Kd.R_lit (Kd.int .i64) _ 3 ?hg (N := 17) ?hd (xs := ([] : List Int)) (inner := []) (ok := fun _ => True) (okp := fun _ => True) ?hr ?hp (fun _ hk => hk) trivial (Below.refl _ _) (Nat.le_refl _) (by simp) ?_; (case hd => rfl); (case hg => rfl); (case hr => first | (go_simp; done) | (go_simp; rfl)); (case hp => exact (Reps.none _ _)); intro dE dL bc hb hg_ hnew_; clear hg_ hnew_; (first | rw [← bL.out] at bc | (simp only [Int.reduceToNat] at bc; rw [← bL.out] at bc)); have n0 := G.m (Kd.R_lower bc (below_size (G.cB HB.out))); have n1 := G.bb ab hb; have n2 := G.bs HB hb; clear ab HB; revert n0 n1 n2; intro ce ab HB; clear hb bc))
    go_loopg [5, 20] bK (fun kq v5 dh w' => ∃ (ay : List Int) (ac : Int), dh = .int .i64 ac ∧ Aside0 (impl_PairOk.l0 kq ay l1 (l1.length : Int) ac = some r) ∧ Aside0 (kq ≤ bK) ∧ Aside0 (Kd.R (Kd.int .i64) 3 w' w.heap.size (fun _ => True) v5 ay) ∧ Aside0 (w'.heap[av]? = some (.cells #[.int .i64 af, (.slice aj aa.length ak)] 29 (0, 0))) ∧ Aside0 (Below w.heap.size w w'))
    case atStart => exact ⟨(b7), (0), (cabI), H', ⟨Nat.le_refl _⟩, ⟨G.cR ce.out⟩, ⟨G.cb ab.out⟩, ⟨G.cB HB.out⟩⟩
    case round =>
     clear H'; (try clear bx); obtain ⟨ay, ac, rfl, HA, co, ap, ab, HB⟩ := hrel; cases gk with
     | zero => exact absurd HA.out (by simp [impl_PairOk.l0])
     | succ k2 =>
      have H := HA.out; clear HA; simp only [impl_PairOk.l0] at H
      by_cases bj : ac < (l1.length : Int)
      ·rw [if_pos bj] at H; have cf : decide (ac < (l1.length : Int)) = true := decide_eq_true bj; clear bj
       by_cases bM : 0 ≤ ac
       ·rw [if_pos bM] at H; have dw : decide (0 ≤ ac) = true := decide_eq_true bM; clear bM
        by_cases bN : ac < (l1.length : Int)
        ·rw [if_pos bN] at H; have dx : decide (ac < (l1.length : Int)) = true := decide_eq_true bN; clear bN; obtain ⟨aD, a3⟩ : ∃ y_ : List Int, y_ = (([(rd_T51 l1 ac).f0, (rd_T51 l1 ac).f1] : List Int)) := ⟨_, rfl⟩; replace H : (if ay.length + aD.length < 17592186044416 then (impl_PairOk.l0 k2 (ay ++ aD) l1 (l1.length : Int) (wrap64 (ac + 1))) else (none)) = some r := by first | (rw [a3]; with_reducible exact H) | (have aG := (Option.bind_some _ _).symm.trans H; rw [a3]; with_reducible exact aG) | (have aG := (Option.bind_some _ _).symm.trans H; with_reducible exact aG) | with_reducible exact H | (rw [a3]; exact H) | exact H
         have bO := G.m a3; clear a3
         by_cases bP : ay.length + aD.length < 17592186044416
         ·rw [if_pos bP] at H; have cg := G.m bP; clear bP; obtain ⟨b8, a4⟩ : ∃ y_ : List Int, y_ = (ay ++ aD) := ⟨_, rfl⟩; replace H : (impl_PairOk.l0 k2 b8 l1 (l1.length : Int) (wrap64 (ac + 1))) = some r := by first | (rw [a4]; with_reducible exact H) | (have aG := (Option.bind_some _ _).symm.trans H; rw [a4]; with_reducible exact aG) | (have aG := (Option.bind_some _ _).symm.trans H; with_reducible exact aG) | with_reducible exact H | (rw [a4]; exact H) | exact H
          have ch := G.m a4; clear a4; have H' := G.m H; clear H; have bF : 0 ≤ (ac : Int) := of_decide_eq_true (G.asm); have bG : ac < (l1.length : Int) := of_decide_eq_true (G.asm); obtain ⟨dy, ct, bk, bl⟩ := at_T51 bf.out ac bF bG; cases ct; replace bk := G.hx HB bk; replace bl := G.hx HB bl; replace bF := eq_true bF; replace bG := eq_true bG
          go_wp2_with (first | ((with_reducible refine G.h 7 rfl ?_); refine G.be 7 #[.int .i64 0, .int .i64 0] 51 ?_; intro aC hg di hbox hb; have n0 := G.rb ap hb; have n1 := G.bb ab hb; have n2 := G.bs HB hb; have n3 := G.m (hbox); have n4 := G.m (cabJ : w.heap.size ≤ aC); have n5 := G.m (cabJ : w.heap.size ≤ aC); have n6 := G.m ((by rw [hg]; exact Nat.ne_of_lt (blk_lt (g := av) (o := .cells #[.int .i64 af, .slice aj aa.length ak] 29 (0, 0)) (G.cb ab.out)) : av ≠ aC)); have n7 := G.m ((by rw [hg]; exact Nat.ne_of_gt (blk_lt (g := av) (o := .cells #[.int .i64 af, .slice aj aa.length ak] 29 (0, 0)) (G.cb ab.out)) : aC ≠ av)); clear ap ab HB; revert n0 n1 n2 n3 n4 n5 n6 n7; intro ap ab HB au dz dA aH bz; clear hb hbox hg; have dB := bz.out; have dC := aH.out; have ⟨cU, cW, cX, cY⟩ := G.d2 (w := di) au) | ((with_reducible refine G.h 29 rfl ?_); refine Kd.R_lit (Kd.int .i64) _ 3 ?hg (N := 29) ?hd (xs := ([(rd_T51 l1 ac).f0, (rd_T51 l1 ac).f1] : List Int)) (inner := [.int .i64 ((rd_T51 l1 ac).f0), .int .i64 ((rd_T51 l1 ac).f1)]) (ok := fun _ => True) (okp := fun _ => True) ?hr ?hp (fun _ hk => hk) trivial (Below.refl _ _) (Nat.le_refl _) (by simp) ?_; (case hd => rfl); (case hg => rfl); (case hr => first | (go_simp; done) | (go_simp; rfl)); (case hp => exact (Reps.one (show Kd.M (Kd.int .i64) _ _ _ ((rd_T51 l1 ac).f0) [.int .i64 ((rd_T51 l1 ac).f0)] from rfl) (Reps.one (show Kd.M (Kd.int .i64) _ _ _ ((rd_T51 l1 ac).f1) [.int .i64 ((rd_T51 l1 ac).f1)] from rfl) (Reps.none _ _)))); intro dF dM a7 hb hg_ hnew_; clear hg_ hnew_; (first | rw [← bO.out] at a7 | (simp only [Int.reduceToNat] at a7; rw [← bO.out] at a7)); have n0 := G.m (Kd.R_elder' (cabN) (Kd.R_base a7) hb); have n1 := G.m (Kd.R_lower (Kd.R_new' a7 (Kd.R_lt (cabN))) (below_size (G.cB HB.out))); have n2 := G.m (blk_below (g := av) (o := .cells #[.int .i64 af, .slice aj aa.length ak] 29 (0, 0)) (by (with_reducible repeat (first | refine blk_drewN ?_ _ | refine blk_drew ?_ | refine blk_alloc ?_ _)); refine blk_far ?_ aH.out _; (with_reducible repeat (first | refine blk_drewN ?_ _ | refine blk_drew ?_ | refine blk_alloc ?_ _)); refine blk_far ?_ aH.out _; (with_reducible repeat (first | refine blk_drewN ?_ _ | refine blk_drew ?_ | refine blk_alloc ?_ _)); exact ab.out) hb); have n3 := G.m (blk_below (g := aC) (o := .cells #[.int .i64 ((rd_T51 l1 ac).f0), .int .i64 ((rd_T51 l1 ac).f1)] 51 (0, 0)) (by (with_reducible repeat (first | refine blk_drewN ?_ _ | refine blk_drew ?_ | refine blk_alloc ?_ _)); refine blk_put (cs := #[.int .i64 ((rd_T51 l1 ac).f0), .int .i64 0]) ?_ 1 _ rfl; (with_reducible repeat (first | refine blk_drewN ?_ _ | refine blk_drew ?_ | refine blk_alloc ?_ _)); refine blk_put (cs := #[.int .i64 0, .int .i64 0]) ?_ 0 _ rfl; (with_reducible repeat (first | refine blk_drewN ?_ _ | refine blk_drew ?_ | refine blk_alloc ?_ _)); exact au.out) hb); have n4 := G.bs HB hb; clear ap ab au HB; revert n0 n1 n2 n3 n4; intro ap aK ab au HB; clear hb a7; obtain ⟨cu, cv, cw⟩ := Kd.R_slice aK.out; subst cw) | ((with_reducible refine gate_builtin (b := .append) (xs := #[.tmp 24, .tmp 29]) rfl ?_); at_builtin; refine Kd.R_append_rows (Kd.int .i64) (w0 := w) w.heap.size rfl (.tmp 24) (.tmp 29) 37 3 (.int .i64 0) 8 rfl Tryd.underlying37 info3 rfl (by decide) (by omega) u5 ay aD _ _ _ (fun k_ => some k_ ≠ (.slice cu aD.length cv : Value).ownBlock) (fun _ => False) rfl rfl ?aO ?aR (fun _ _ h => h) (fun _ h => h.elim) ?aF ?aB ?aS ?aL ?_; (case aR => exact G.cC (Kd.R_reads' aK.out).2.2); (case aB => exact (G.cB HB.out)); (case aF => exact (fun k_ hk => Kd.fresh' (Kd.R_lt (G.cR aK.out)) k_ hk)); (case aO => exact (by (with_reducible repeat (first | apply Kd.R_alloc | apply Kd.R_drewN | apply Kd.R_drew)); exact Kd.R_mono ap.out (fun _ hk => hk.2))); (case aS => exact (below_size (G.cB HB.out))); (case aL => have := cg.out; omega); intro dG dN ho hb hg hat; rw [← ch.out] at ho; have n0 := G.bg ab hg (Kd.R_ne ap.out ab.out (by decide)); have n1 := G.bg au hg (Kd.R_ne ap.out au.out (by decide)); have n2 := G.m (Kd.R_after (ok := (fun _ => True)) (G.cR aK.out) hg hat); have n3 := G.m (hb); have n4 := G.m (ho); clear ab au aK HB ap; revert n0 n1 n2 n3 n4; intro ab au aK HB ci; clear ho hb hg hat))
          go_roundg k2
          case measure => have := cn.out; have := co.out; omega
          case rel => exact ⟨(b8), (wrap64 (ac + 1)), (cabI), H', ⟨by have := cn.out; have := co.out; omega⟩, ⟨by (with_reducible repeat (first | apply Kd.R_alloc | apply Kd.R_drewN | apply Kd.R_drew)); exact Kd.R_mono ci.out (fun _ hk => trivial)⟩, ⟨G.cb ab.out⟩, ⟨G.cB HB.out⟩⟩
         ·rw [if_neg bP] at H; exact absurd H (by simp)
        ·rw [if_neg bN] at H; exact absurd H (by simp)
       ·rw [if_neg bM] at H; exact absurd H (by simp)
      ·rw [if_neg bj] at H; have cf : decide (ac < (l1.length : Int)) = false := decide_eq_false bj; clear bj; obtain ⟨br, dj, H⟩ := G.bi H; replace H : (some br) = some r := H; obtain rfl := Option.some.inj H; obtain ⟨cx, cy, cz⟩ := Kd.R_slice ap.out; subst cz
       go_wp2_with (first | ((with_reducible refine G.f 62 rfl ?_); refine G.gL 33 Tryd.func62 #[.slice cx ay.length cy] ?_; (with_reducible refine (impl_different.calls k2 _ _ ay br _ ?side1 ?side2 dj.out).mono ?_); (case side1 => exact G.cC (Kd.R_reads' ap.out).2.2); (case side2 => exact (Kd.R_reads' ap.out).2.1); rintro e w' ⟨rfl, ⟨nd, rfl⟩⟩; refine ⟨_, rfl, ?_⟩))
       go_ret
       exact ⟨cabK, G.cB HB.out⟩

end Go.Proofs.YtjkeagcenmmknaaDoor.P
