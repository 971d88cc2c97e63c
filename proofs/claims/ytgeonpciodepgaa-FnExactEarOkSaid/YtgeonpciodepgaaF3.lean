-- Printed by a program of this session (mp.py, over the kit's print). Not trusted: Lean checks it.
import Derived.Test.YtgeonpciodepgaaF0
import Derived.Test.YtgeonpciodepgaaF1
import Derived.Test.YtgeonpciodepgaaF2
namespace Go.Proofs.Ytgeonpciodepgaa.P
open Go.RowKit Go.Proofs.YtgeonpciodepgaaW.PrintWords Go.Proofs.YtgeonpciodepgaaW.PrintLast Go.Proofs.YtgeonpciodepgaaW.PrintMore
attribute [local go_sem] max2_int min2_int max_two min_two max_three min_three max_four min_four   -- for this text's walks alone
set_option linter.unusedVariables false
set_option linter.unusedSimpArgs false

theorem caap {p : Prop} (h : p := by (try simp only [List.map_toArray, List.map_cons, List.map_nil]); first | done | (simp only [bz]; rfl) | rfl | (simp only [List.length_drop, List.length_take]; rfl)) : p := h
theorem caan {p : Prop} (h : p := by first | rfl | (simp [errW_none, errW_some] <;> rfl) | (simp [*, errW_none, errW_some] <;> rfl)) : p := h
theorem caal {p : Prop} (h : p := by first | rfl | (simp; done) | (simp [*]; done)) : p := h
theorem caam {p : Prop} (h : p := by rw [hg]; exact (below_size (G.cB HB.out))) : p := h
theorem caao {p : Prop} (h : p := by kernel_rfl) : p := h
attribute [local go_sem high] eqA59
/-! ### spec_l1Tie: function 46 -/
def spec_l1Tie.f (a0 : Int) (a1 : Int) : Option (Int × Int) := if a0 < a1 then (some (a0, a1)) else (some (a1, a0))
set_option maxHeartbeats 8000000 in
set_option maxRecDepth 100000 in
theorem spec_l1Tie.calls (a0 : Int) (a1 : Int) (r1 : Int) (r2 : Int) (w : World) (h : spec_l1Tie.f a0 a1 = some (r1, r2)) :
  Calls Try.prog 46 #[.int .i64 a0, .int .i64 a1] w fun e w' => e = .returned (.agg #[.int .i64 r1, .int .i64 r2]) ∧ Below w.heap.size w w' := by
 have bF := Try.underlying59; have HB := G.m (Below.refl w.heap.size w); have H : (if a0 < a1 then (some (a0, a1)) else (some (a1, a0))) = some (r1, r2) := h; clear h
 by_cases c3 : a0 < a1
 ·rw [if_pos c3] at H; have bC : decide (a0 < a1) = true := decide_eq_true c3; clear c3; simp only [Option.some.injEq, Prod.mk.injEq] at H; obtain ⟨rfl, rfl⟩ := H
  go_enter Try.func46, Try.ntmps46
  go_wp2_with (first | ((with_reducible refine G.h 4 rfl ?_); refine G.be 4 #[.int .i64 0, .int .i64 0] 59 ?_; intro aX hg w4 hbox hb; have n0 := G.bs HB hb; have n1 := G.m (hbox); have n2 := G.m (caam : w.heap.size ≤ aX); have n3 := G.m (caam : w.heap.size ≤ aX); clear HB; revert n0 n1 n2 n3; intro HB bn b8 b9; clear hb hbox hg; have ⟨cS, cT, cU, cW⟩ := G.d2 (w := w4) bn))
  refine bodyPost_ret (results_cell_row rfl _ _ aX 59 #[.int .i64 a0, .int .i64 a1] (0, 0) _ rfl (by (with_reducible repeat (first | refine blk_drewN ?_ _ | refine blk_drew ?_ | refine blk_alloc ?_ _)); refine blk_put (cs := #[.int .i64 a0, .int .i64 0]) ?_ 1 _ rfl; (with_reducible repeat (first | refine blk_drewN ?_ _ | refine blk_drew ?_ | refine blk_alloc ?_ _)); refine blk_put (cs := #[.int .i64 0, .int .i64 0]) ?_ 0 _ rfl; (with_reducible repeat (first | refine blk_drewN ?_ _ | refine blk_drew ?_ | refine blk_alloc ?_ _)); exact bn.out) Try.underlying59 rfl (caao)) rfl ?_; exact ⟨caan, G.cB HB.out⟩
 ·rw [if_neg c3] at H; have bC : decide (a0 < a1) = false := decide_eq_false c3; clear c3; simp only [Option.some.injEq, Prod.mk.injEq] at H; obtain ⟨rfl, rfl⟩ := H
  go_enter Try.func46, Try.ntmps46
  go_wp2_with (first | ((with_reducible refine G.h 4 rfl ?_); refine G.be 4 #[.int .i64 0, .int .i64 0] 59 ?_; intro aX hg w6 hbox hb; have n0 := G.bs HB hb; have n1 := G.m (hbox); have n2 := G.m (caam : w.heap.size ≤ aX); have n3 := G.m (caam : w.heap.size ≤ aX); clear HB; revert n0 n1 n2 n3; intro HB bn b8 b9; clear hb hbox hg; have ⟨bT, bU, bV, bW⟩ := G.d2 (w := w6) bn))
  refine bodyPost_ret (results_cell_row rfl _ _ aX 59 #[.int .i64 a1, .int .i64 a0] (0, 0) _ rfl (by (with_reducible repeat (first | refine blk_drewN ?_ _ | refine blk_drew ?_ | refine blk_alloc ?_ _)); refine blk_put (cs := #[.int .i64 a1, .int .i64 0]) ?_ 1 _ rfl; (with_reducible repeat (first | refine blk_drewN ?_ _ | refine blk_drew ?_ | refine blk_alloc ?_ _)); refine blk_put (cs := #[.int .i64 0, .int .i64 0]) ?_ 0 _ rfl; (with_reducible repeat (first | refine blk_drewN ?_ _ | refine blk_drew ?_ | refine blk_alloc ?_ _)); exact bn.out) Try.underlying59 rfl (caao)) rfl ?_; exact ⟨caan, G.cB HB.out⟩

/-! ### spec_l2Has: function 47 -/
def spec_l2Has.l0 : Nat → List Int → Int → Int → Option (Bool)
 | 0, _, _, _ => none
 | k + 1, x0, x1, x5 => if x5 < (x0.length : Int) then (if 0 ≤ x5 then (if (rd x0 x5) = x1 then (some true) else (spec_l2Has.l0 k x0 x1 (wrap64 (x5 + 1)))) else (none)) else (some false)
def spec_l2Has.f (k : Nat) (l0 : List Int) (a1 : Int) : Option (Bool) := spec_l2Has.l0 k l0 a1 0
theorem spec_l2Has.mono_l : ∀ k, (∀ y0 y1 y2, LeO (spec_l2Has.l0 k y0 y1 y2) (spec_l2Has.l0 (k + 1) y0 y1 y2))
 | 0 => fun _ _ _ r h => by simp [spec_l2Has.l0] at h
 | k + 1 => by
  have ap := spec_l2Has.mono_l k
  ·intro y0 y1 y2; unfold spec_l2Has.l0
   repeat' first
   | (with_reducible exact ap _ _ _)
   | (with_reducible exact LeO.refl _)
   | (with_reducible exact LeO.none _)
   | (with_reducible refine LeO.ite ?_ ?_)
   | (with_reducible refine LeO.bind ?_ (fun _ => ?_))
   | exact ap _ _ _
   | exact LeO.none _
   | refine LeO.ite ?_ ?_
   | refine LeO.bind ?_ (fun _ => ?_)
theorem spec_l2Has.mono : ∀ a0 a1 k, LeO (spec_l2Has.f k a0 a1) (spec_l2Has.f (k + 1) a0 a1) := by
 intro a0 a1 k; have ap := spec_l2Has.mono_l k; unfold spec_l2Has.f
 repeat' first | (with_reducible first | exact ap _ _ _ | exact LeO.refl _ | exact LeO.none _ | refine LeO.ite ?_ ?_ | refine LeO.bind ?_ (fun _ => ?_)) | exact ap _ _ _ | exact LeO.none _ | refine LeO.ite ?_ ?_ | refine LeO.bind ?_ (fun _ => ?_)
set_option maxHeartbeats 8000000 in
set_option maxRecDepth 100000 in
theorem spec_l2Has.calls (k : Nat) (A0 : Option Addr) (c0 : Nat) (l0 : List Int) (a1 : Int) (r : Bool) (w : World) (bw : Kd.C (Kd.int .i64) w A0 l0.length l0) (bx : l0.length ≤ c0) (h : spec_l2Has.f k l0 a1 = some r) :
  Calls Try.prog 47 #[.slice A0 l0.length c0, .int .i64 a1] w fun e w' => e = .returned (.bool r) ∧ Drawn0 w w' := by
 have a8 := G.m bw; have ch := G.m bx; clear bw bx; have H : (spec_l2Has.l0 k l0 a1 0) = some r := h; clear h; have H' := G.m H; clear H
 go_enter Try.func47, Try.ntmps47
 go_wp2
 go_loopg [5] k (fun kq v5 w' => ∃ (ak : Int), v5 = .int .i64 ak ∧ Aside0 (spec_l2Has.l0 kq l0 a1 ak = some r) ∧ Aside0 (kq ≤ k) ∧ Drawn0 w w')
 case atStart => exact ⟨(0), (caal), H', ⟨Nat.le_refl _⟩, by repeat (first | exact Drawn0.refl _ | apply Drawn0.step)⟩
 case round =>
  clear H'; try clear p2
  obtain ⟨ak, rfl, HA, a5, ⟨m1, rfl⟩⟩ := hrel; cases gk with
  | zero => exact absurd HA.out (by simp [spec_l2Has.l0])
  | succ k1 =>
   have H := HA.out; clear HA; simp only [spec_l2Has.l0] at H
   by_cases c3 : ak < (l0.length : Int)
   ·rw [if_pos c3] at H; have bC : decide (ak < (l0.length : Int)) = true := decide_eq_true c3; clear c3
    by_cases c4 : 0 ≤ ak
    ·rw [if_pos c4] at H; have bX : decide (0 ≤ ak) = true := decide_eq_true c4; clear c4
     by_cases c5 : (rd l0 ak) = a1
     ·rw [if_pos c5] at H; have br : ((rd l0 ak) == a1) = true := beq_iff_eq.mpr c5; have bG : ((rd l0 ak) != a1) = false := bne_eq_false_iff_eq.mpr c5; clear c5; obtain rfl := Option.some.inj H; have a9 : 0 ≤ (ak : Int) := of_decide_eq_true (G.asm); have a_ : ak < (l0.length : Int) := of_decide_eq_true (G.asm); obtain ⟨b_, bH, bQ⟩ := Kd.at_int a8.out ak a9 a_; cases bH; replace a9 := eq_true a9; replace a_ := eq_true a_
      go_wp2
      go_ret
      exact ⟨caal, by repeat (first | exact Drawn0.refl _ | apply Drawn0.step)⟩
     ·rw [if_neg c5] at H; have br : ((rd l0 ak) == a1) = false := beq_eq_false_iff_ne.mpr c5; have bG : ((rd l0 ak) != a1) = true := bne_iff_ne.mpr c5; have H' := G.m H; clear H; have a9 : 0 ≤ (ak : Int) := of_decide_eq_true (G.asm); have a_ : ak < (l0.length : Int) := of_decide_eq_true (G.asm); obtain ⟨b_, bH, bQ⟩ := Kd.at_int a8.out ak a9 a_; cases bH; replace a9 := eq_true a9; replace a_ := eq_true a_
      go_wp2
      go_roundg k1
      case measure => have := a5.out; omega
      case rel => exact ⟨(wrap64 (ak + 1)), (caal), H', ⟨by have := a5.out; omega⟩, by repeat (first | exact Drawn0.refl _ | apply Drawn0.step)⟩
    ·rw [if_neg c4] at H; exact absurd H (by simp)
   ·rw [if_neg c3] at H; have bC : decide (ak < (l0.length : Int)) = false := decide_eq_false c3; clear c3; obtain rfl := Option.some.inj H
    go_wp2
    go_ret
    exact ⟨caal, by repeat (first | exact Drawn0.refl _ | apply Drawn0.step)⟩

/-! ### spec_l1Knot: function 85 -/
def spec_l1Knot.f (k : Nat) (ab : Int) (aa : List (S59)) (a1 : Int) : Option (Bool) := (spec_NetOk.f k ab aa).bind fun bu => (if bu = true then ((spec_l6In.f a1 0 (wrap64 (ab - 1))).bind fun aN => (some aN)) else (some false))
theorem spec_l1Knot.mono : ∀ a0 a1 a2 k, LeO (spec_l1Knot.f k a0 a1 a2) (spec_l1Knot.f (k + 1) a0 a1 a2) := by
 intro a0 a1 a2 k; unfold spec_l1Knot.f
 repeat' first | (with_reducible first | exact spec_NetOk.mono _ _ _ | exact LeO.refl _ | exact LeO.none _ | refine LeO.ite ?_ ?_ | refine LeO.bind ?_ (fun _ => ?_)) | exact spec_NetOk.mono _ _ _ | exact LeO.none _ | refine LeO.ite ?_ ?_ | refine LeO.bind ?_ (fun _ => ?_)
set_option maxHeartbeats 8000000 in
set_option maxRecDepth 100000 in
theorem spec_l1Knot.calls (k : Nat) (ab : Int) (ao : Option Addr) (al : Nat) (aa : List (S59)) (a1 : Int) (r : Bool) (w : World) (aK : Kd.C k59 w ao aa.length aa) (aL : aa.length ≤ al) (h : spec_l1Knot.f k ab aa a1 = some r) :
  Calls Try.prog 85 #[.agg #[.int .i64 ab, .slice ao aa.length al], .int .i64 a1] w fun e w' => e = .returned (.bool r) ∧ Below w.heap.size w w' := by
 have bY := Try.underlying31; have aG := G.m aK; have aY := G.m aL; clear aK aL; have HB := G.m (Below.refl w.heap.size w); have H : ((spec_NetOk.f k ab aa).bind fun bu => (if bu = true then ((spec_l6In.f a1 0 (wrap64 (ab - 1))).bind fun aN => (some aN)) else (some false))) = some r := h; clear h; obtain ⟨bu, A3, H⟩ := G.bi H; replace H : (if bu = true then ((spec_l6In.f a1 0 (wrap64 (ab - 1))).bind fun aN => (some aN)) else (some false)) = some r := H
 by_cases c4 : bu = true
 ·subst c4; have H1 : ((spec_l6In.f a1 0 (wrap64 (ab - 1))).bind fun aN => (some aN)) = some r := by rw [if_pos rfl] at H; exact H
  clear H; have H := H1; clear H1; obtain ⟨aN, A5, H⟩ := G.bi H; replace H : (some aN) = some r := H; obtain rfl := Option.some.inj H
  go_enter Try.func85, Try.ntmps85
  go_wp2_with (first | ((with_reducible refine G.h 2 rfl ?_); refine G.be 2 #[.int .i64 ab, .slice ao aa.length al] 31 ?_; intro bo hg w6 hbox hb; have n0 := G.bs HB hb; have n1 := G.m (hbox); have n2 := G.m (caam : w.heap.size ≤ bo); have n3 := G.m (caam : w.heap.size ≤ bo); clear HB; revert n0 n1 n2 n3; intro HB aC ca cd; clear hb hbox hg; have ⟨bT, bU, bV, bW⟩ := G.d2 (w := w6) aC) | ((with_reducible refine G.f 32 rfl ?_); refine G.gL 6 Try.func32 #[.agg #[.int .i64 ab, .slice ao aa.length al]] ?_; (with_reducible refine (spec_NetOk.calls k ab _ _ aa true _ ?side1 ?side2 A3.out).mono ?_); (case side1 => exact G.cC (Kd.C_below aG.out HB.out)); (case side2 => exact aY.out); rintro e w8 ⟨rfl, hb⟩; refine ⟨_, rfl, ?_⟩; have n0 := G.bb aC hb; have n1 := G.bs HB hb; clear aC HB; revert n0 n1; intro aC HB; (try clear hb); have ⟨bZ, b1, b2, b3⟩ := G.d2 (w := w8) aC) | (go_at_call 75; (with_reducible refine (spec_l6In.calls a1 0 (wrap64 (ab - 1)) aN _ A5.out).mono ?_); rintro e w' ⟨rfl, ⟨nd, rfl⟩⟩))
  go_ret
  exact ⟨caan, G.cB HB.out⟩
 ·replace c4 := Bool.eq_false_iff.mpr c4; subst c4; have H1 : (some false) = some r := by rw [if_neg (show ¬ (false = true) by decide)] at H; exact H
  clear H; have H := H1; clear H1; obtain rfl := Option.some.inj H
  go_enter Try.func85, Try.ntmps85
  go_wp2_with (first | ((with_reducible refine G.h 2 rfl ?_); refine G.be 2 #[.int .i64 ab, .slice ao aa.length al] 31 ?_; intro bo hg b4 hbox hb; have n0 := G.bs HB hb; have n1 := G.m (hbox); have n2 := G.m (caam : w.heap.size ≤ bo); have n3 := G.m (caam : w.heap.size ≤ bo); clear HB; revert n0 n1 n2 n3; intro HB aC ca cd; clear hb hbox hg; have ⟨cu, cv, cw, cx⟩ := G.d2 (w := b4) aC) | ((with_reducible refine G.f 32 rfl ?_); refine G.gL 6 Try.func32 #[.agg #[.int .i64 ab, .slice ao aa.length al]] ?_; (with_reducible refine (spec_NetOk.calls k ab _ _ aa false _ ?side1 ?side2 A3.out).mono ?_); (case side1 => exact G.cC (Kd.C_below aG.out HB.out)); (case side2 => exact aY.out); rintro e b5 ⟨rfl, hb⟩; refine ⟨_, rfl, ?_⟩; have n0 := G.bb aC hb; have n1 := G.bs HB hb; clear aC HB; revert n0 n1; intro aC HB; (try clear hb)))
  go_ret
  exact ⟨caan, G.cB HB.out⟩

/-! ### spec_l1Has: function 113 -/
def spec_l1Has.l0 : Nat → Int → Int → Int → Int → List (S59) → Option (Bool)
 | 0, _, _, _, _, _ => none
 | k + 1, x1, x2, x7, bR, a6 => if x7 < (a6.length : Int) then (if 0 ≤ x7 then ((spec_l1Tie.f x1 x2).bind fun bO => (if (((rd_T59 a6 x7).f0) == bO.1 && (((rd_T59 a6 x7).f1) == bO.2)) = true then (some true) else (spec_l1Has.l0 k x1 x2 (wrap64 (x7 + 1)) bR a6))) else (none)) else (some false)
def spec_l1Has.f (k : Nat) (ab : Int) (aa : List (S59)) (a1 : Int) (a2 : Int) : Option (Bool) := spec_l1Has.l0 k a1 a2 0 ab aa
theorem spec_l1Has.mono_l : ∀ k, (∀ y0 y1 y2 y3 y4, LeO (spec_l1Has.l0 k y0 y1 y2 y3 y4) (spec_l1Has.l0 (k + 1) y0 y1 y2 y3 y4))
 | 0 => fun _ _ _ _ _ r h => by simp [spec_l1Has.l0] at h
 | k + 1 => by
  have ap := spec_l1Has.mono_l k
  ·intro y0 y1 y2 y3 y4; unfold spec_l1Has.l0
   repeat' first
   | (with_reducible exact ap _ _ _ _ _)
   | (with_reducible exact LeO.refl _)
   | (with_reducible exact LeO.none _)
   | (with_reducible refine LeO.ite ?_ ?_)
   | (with_reducible refine LeO.bind ?_ (fun _ => ?_))
   | exact ap _ _ _ _ _
   | exact LeO.none _
   | refine LeO.ite ?_ ?_
   | refine LeO.bind ?_ (fun _ => ?_)
theorem spec_l1Has.mono : ∀ a0 a1 a2 a3 k, LeO (spec_l1Has.f k a0 a1 a2 a3) (spec_l1Has.f (k + 1) a0 a1 a2 a3) := by
 intro a0 a1 a2 a3 k; have ap := spec_l1Has.mono_l k; unfold spec_l1Has.f
 repeat' first | (with_reducible first | exact ap _ _ _ _ _ | exact LeO.refl _ | exact LeO.none _ | refine LeO.ite ?_ ?_ | refine LeO.bind ?_ (fun _ => ?_)) | exact ap _ _ _ _ _ | exact LeO.none _ | refine LeO.ite ?_ ?_ | refine LeO.bind ?_ (fun _ => ?_)
def spec_l1Has.T4 : Bool × List (List Nat × List Nat) := (true, [([], []), ([0], [0]), ([], []), ([1, 2], [1, 2]), ([3], [3]), ([], []), ([], []), ([5, 6], [5, 6]), ([4, 7], [4, 7])])
def spec_l1Has.B4 : List Nat := [0, 1, 0, 7, 15, 0, 0, 96, 255]
theorem spec_l1Has.tab4 : rtab .any (opsOf Try.f113 4) = spec_l1Has.T4 := by kernel_rfl
theorem spec_l1Has.bits4 : waitsOk spec_l1Has.T4.2 spec_l1Has.B4 = true := by kernel_rfl
set_option maxHeartbeats 8000000 in
set_option maxRecDepth 100000 in
theorem spec_l1Has.calls (k : Nat) (ab : Int) (ao : Option Addr) (al : Nat) (aa : List (S59)) (a1 : Int) (a2 : Int) (r : Bool) (w : World) (aK : Kd.C k59 w ao aa.length aa) (aL : aa.length ≤ al) (h : spec_l1Has.f k ab aa a1 a2 = some r) :
  Calls Try.prog 113 #[.agg #[.int .i64 ab, .slice ao aa.length al], .int .i64 a1, .int .i64 a2] w fun e w' => e = .returned (.bool r) ∧ Below w.heap.size w w' := by
 have bY := Try.underlying31; have bF := Try.underlying59; have aG := G.m aK; have aY := G.m aL; clear aK aL; have HB := G.m (Below.refl w.heap.size w); have H : (spec_l1Has.l0 k a1 a2 0 ab aa) = some r := h; clear h; have H' := G.m H; clear H
 go_enter Try.func113, Try.ntmps113
 go_wp2_with (first | ((with_reducible refine G.h 3 rfl ?_); refine G.be 3 #[.int .i64 ab, .slice ao aa.length al] 31 ?_; intro aZ hg w4 hbox hb; have n0 := G.bs HB hb; have n1 := G.m (hbox); have n2 := G.m (caam : w.heap.size ≤ aZ); have n3 := G.m (caam : w.heap.size ≤ aZ); clear HB; revert n0 n1 n2 n3; intro HB af de df; clear hb hbox hg))
 go_loopg [7] k (fun kq v7 w' => ∃ (ac : Int), v7 = .int .i64 ac ∧ Aside0 (spec_l1Has.l0 kq a1 a2 ac ab aa = some r) ∧ Aside0 (kq ≤ k) ∧ Aside0 (w'.heap[aZ]? = some (.cells #[.int .i64 ab, (.slice ao aa.length al)] 31 (0, 0))) ∧ Aside0 (Below w.heap.size w w'))
 case atStart => exact ⟨(0), (caal), H', ⟨Nat.le_refl _⟩, ⟨G.cb af.out⟩, ⟨G.cB HB.out⟩⟩
 case round =>
  clear H'; obtain ⟨ac, rfl, HA, a5, af, HB⟩ := hrel; cases gk with
  | zero => exact absurd HA.out (by simp [spec_l1Has.l0])
  | succ k1 =>
   have H := HA.out; clear HA; simp only [spec_l1Has.l0] at H
   by_cases c5 : ac < (aa.length : Int)
   ·rw [if_pos c5] at H; have br : decide (ac < (aa.length : Int)) = true := decide_eq_true c5; clear c5
    by_cases c6 : 0 ≤ ac
    ·rw [if_pos c6] at H; have cn : decide (0 ≤ ac) = true := decide_eq_true c6; clear c6; obtain ⟨⟨aI, aJ⟩, A7, H⟩ := G.bi H; replace H : (if (((rd_T59 aa ac).f0) == aI && (((rd_T59 aa ac).f1) == aJ)) = true then (some true) else (spec_l1Has.l0 k1 a1 a2 (wrap64 (ac + 1)) ab aa)) = some r := H
     by_cases c8 : (((rd_T59 aa ac).f0) == aI && (((rd_T59 aa ac).f1) == aJ)) = true
     ·rw [if_pos c8] at H; have bA : (((rd_T59 aa ac).f0) == aI && (((rd_T59 aa ac).f1) == aJ)) = true := c8; (try (have co : decide (((rd_T59 aa ac).f0) = aI && (((rd_T59 aa ac).f1) == aJ)) = true := by simpa using c8)); (try (have cp : (((rd_T59 aa ac).f0) == aI && (((rd_T59 aa ac).f1) == aJ)) = true := by simpa using c8)); clear c8; obtain rfl := Option.some.inj H; have ⟨bZ, b1, b2, b3⟩ := G.d2 (w := wr) af; try go_wp2
      have n0 := G.m (blk_drew af.out); have n1 := G.m (below_drew1 HB.out); clear af HB; revert n0 n1; intro af HB; have ba : 0 ≤ (ac : Int) := of_decide_eq_true (G.asm); have bc : ac < (aa.length : Int) := of_decide_eq_true (G.asm); obtain ⟨aH, bI, aq, au⟩ := at_T59 aG.out ac ba bc; have aR := au; have aS := aq; cases bI; replace aq := G.hx HB aq; replace au := G.hx HB au; replace ba := eq_true ba; replace bc := eq_true bc; refine G.st 9 (S := fun w' => w'.cell? ⟨aZ, 0, none⟩ = some (.int .i64 ab) ∧ w'.cell? ⟨aZ, 1, none⟩ = some (.slice (some aH) aa.length al) ∧ w'.cell? (aH.add ((ac).toNat * 2)) = some (.int .i64 ((rd_T59 aa ac).f0)) ∧ w'.cell? ⟨(aH.add ((ac).toNat * 2)).block, (aH.add ((ac).toNat * 2)).off + 1, none⟩ = some (.int .i64 ((rd_T59 aa ac).f1))) [] ⟨G.z af 0, G.z af 1, (G.hx HB aS), (G.hx HB aR)⟩ spec_l1Has.tab4 spec_l1Has.bits4 (fun hHeld HT_ HW_ => ?_); generalize wr.drew = b4 at af HB aq au hHeld ⊢; refine G.pu 0 15 1 ?_; refine G.pu 2 17 5 ?_; refine G.pu 5 20 37 ?_; refine G.pu 6 21 101 ?_; refine G.ta4 1 16 103 ?_; refine G.pu 3 18 111 ?_; refine G.ta4 4 19 127 ?_; refine G.on 7 22 255 (fun K hK => ?_); refine G.gs Try.func46 #[.int .i64 a1, .int .i64 a2] ?_; with_reducible refine (spec_l1Tie.calls a1 a2 aI aJ _ A7.out).mono ?_
      rintro e ci ⟨rfl, hb⟩; refine ⟨_, rfl, ?_⟩; have n0 := G.bb af hb; have n1 := G.bs HB hb; clear af HB; revert n0 n1; intro af HB; (try clear hb); refine hK.out _ _ ⟨G.z af 0, G.z af 1, (G.hx HB aS), (G.hx HB aR)⟩ (fun hHeld => ?_); clear hK K; refine G.no 22 ?_; refine G.pu 8 23 511 ?_; refine done_ (done_of HT_.out (caao)) ?_; try go_wp2
      go_ret
      exact ⟨caan, G.cB HB.out⟩
     ·rw [if_neg c8] at H; have bA : (((rd_T59 aa ac).f0) == aI && (((rd_T59 aa ac).f1) == aJ)) = false := by simpa using c8
      (try (have co : decide (((rd_T59 aa ac).f0) = aI && (((rd_T59 aa ac).f1) == aJ)) = false := by simpa using c8)); (try (have cp : (((rd_T59 aa ac).f0) == aI && (((rd_T59 aa ac).f1) == aJ)) = false := by simpa using c8)); (try (have dl : ¬ (((rd_T59 aa ac).f0) = aI && (((rd_T59 aa ac).f1) == aJ)) := by simpa using c8)); clear c8; have H' := G.m H; clear H; have ⟨cy, cz, cA, cD⟩ := G.d2 (w := wr) af; try go_wp2
      have n0 := G.m (blk_drew af.out); have n1 := G.m (below_drew1 HB.out); clear af HB; revert n0 n1; intro af HB; have ba : 0 ≤ (ac : Int) := of_decide_eq_true (G.asm); have bc : ac < (aa.length : Int) := of_decide_eq_true (G.asm); obtain ⟨aH, bI, aq, au⟩ := at_T59 aG.out ac ba bc; have aR := au; have aS := aq; cases bI; replace aq := G.hx HB aq; replace au := G.hx HB au; replace ba := eq_true ba; replace bc := eq_true bc; refine G.st 9 (S := fun w' => w'.cell? ⟨aZ, 0, none⟩ = some (.int .i64 ab) ∧ w'.cell? ⟨aZ, 1, none⟩ = some (.slice (some aH) aa.length al) ∧ w'.cell? (aH.add ((ac).toNat * 2)) = some (.int .i64 ((rd_T59 aa ac).f0)) ∧ w'.cell? ⟨(aH.add ((ac).toNat * 2)).block, (aH.add ((ac).toNat * 2)).off + 1, none⟩ = some (.int .i64 ((rd_T59 aa ac).f1))) [] ⟨G.z af 0, G.z af 1, (G.hx HB aS), (G.hx HB aR)⟩ spec_l1Has.tab4 spec_l1Has.bits4 (fun hHeld HT_ HW_ => ?_); generalize wr.drew = dp at af HB aq au hHeld ⊢; refine G.pu 0 15 1 ?_; refine G.pu 2 17 5 ?_; refine G.pu 5 20 37 ?_; refine G.pu 6 21 101 ?_; refine G.ta4 1 16 103 ?_; refine G.pu 3 18 111 ?_; refine G.ta4 4 19 127 ?_; refine G.on 7 22 255 (fun K hK => ?_); refine G.gs Try.func46 #[.int .i64 a1, .int .i64 a2] ?_; with_reducible refine (spec_l1Tie.calls a1 a2 aI aJ _ A7.out).mono ?_
      rintro e cX ⟨rfl, hb⟩; refine ⟨_, rfl, ?_⟩; have n0 := G.bb af hb; have n1 := G.bs HB hb; clear af HB; revert n0 n1; intro af HB; (try clear hb); refine hK.out _ _ ⟨G.z af 0, G.z af 1, (G.hx HB aS), (G.hx HB aR)⟩ (fun hHeld => ?_); clear hK K; refine G.no 22 ?_; refine G.pu 8 23 511 ?_; refine done_ (done_of HT_.out (caao)) ?_; try go_wp2
      go_roundg k1
      case measure => have := a5.out; omega
      case rel => exact ⟨(wrap64 (ac + 1)), (caal), H', ⟨by have := a5.out; omega⟩, ⟨G.cb af.out⟩, ⟨G.cB HB.out⟩⟩
    ·rw [if_neg c6] at H; exact absurd H (by simp)
   ·rw [if_neg c5] at H; have br : decide (ac < (aa.length : Int)) = false := decide_eq_false c5; clear c5; obtain rfl := Option.some.inj H; have ⟨cE, cF, cG, cH⟩ := G.d2 (w := wr) af
    go_wp2
    go_ret
    exact ⟨caan, G.cB HB.out⟩

/-! ### spec_NetHas: function 86 -/
def spec_NetHas.f (k : Nat) (ab : Int) (aa : List (S59)) (a1 : Int) (a2 : Int) : Option (Bool) := (spec_NetOk.f k ab aa).bind fun bv => (if bv = true then ((spec_l1Has.f k ab aa a1 a2).bind fun aO => (some aO)) else (some false))
theorem spec_NetHas.mono : ∀ a0 a1 a2 a3 k, LeO (spec_NetHas.f k a0 a1 a2 a3) (spec_NetHas.f (k + 1) a0 a1 a2 a3) := by
 intro a0 a1 a2 a3 k; unfold spec_NetHas.f
 repeat' first | (with_reducible first | exact spec_NetOk.mono _ _ _ | exact spec_l1Has.mono _ _ _ _ _ | exact LeO.refl _ | exact LeO.none _ | refine LeO.ite ?_ ?_ | refine LeO.bind ?_ (fun _ => ?_)) | exact spec_NetOk.mono _ _ _ | exact spec_l1Has.mono _ _ _ _ _ | exact LeO.none _ | refine LeO.ite ?_ ?_ | refine LeO.bind ?_ (fun _ => ?_)
set_option maxHeartbeats 8000000 in
set_option maxRecDepth 100000 in
theorem spec_NetHas.calls (k : Nat) (ab : Int) (ao : Option Addr) (al : Nat) (aa : List (S59)) (a1 : Int) (a2 : Int) (r : Bool) (w : World) (aK : Kd.C k59 w ao aa.length aa) (aL : aa.length ≤ al) (h : spec_NetHas.f k ab aa a1 a2 = some r) :
  Calls Try.prog 86 #[.agg #[.int .i64 ab, .slice ao aa.length al], .int .i64 a1, .int .i64 a2] w fun e w' => e = .returned (.bool r) ∧ Below w.heap.size w w' := by
 have bY := Try.underlying31; have aG := G.m aK; have aY := G.m aL; clear aK aL; have HB := G.m (Below.refl w.heap.size w); have H : ((spec_NetOk.f k ab aa).bind fun bv => (if bv = true then ((spec_l1Has.f k ab aa a1 a2).bind fun aO => (some aO)) else (some false))) = some r := h; clear h; obtain ⟨bv, A4, H⟩ := G.bi H; replace H : (if bv = true then ((spec_l1Has.f k ab aa a1 a2).bind fun aO => (some aO)) else (some false)) = some r := H
 by_cases c5 : bv = true
 ·subst c5; have H1 : ((spec_l1Has.f k ab aa a1 a2).bind fun aO => (some aO)) = some r := by rw [if_pos rfl] at H; exact H
  clear H; have H := H1; clear H1; obtain ⟨aO, A6, H⟩ := G.bi H; replace H : (some aO) = some r := H; obtain rfl := Option.some.inj H
  go_enter Try.func86, Try.ntmps86
  go_wp2_with (first | ((with_reducible refine G.h 3 rfl ?_); refine G.be 3 #[.int .i64 ab, .slice ao aa.length al] 31 ?_; intro bp hg w7 hbox hb; have n0 := G.bs HB hb; have n1 := G.m (hbox); have n2 := G.m (caam : w.heap.size ≤ bp); have n3 := G.m (caam : w.heap.size ≤ bp); clear HB; revert n0 n1 n2 n3; intro HB av ce cf; clear hb hbox hg; have ⟨cY, cZ, c_, da⟩ := G.d2 (w := w7) av) | ((with_reducible refine G.f 32 rfl ?_); refine G.gL 8 Try.func32 #[.agg #[.int .i64 ab, .slice ao aa.length al]] ?_; (with_reducible refine (spec_NetOk.calls k ab _ _ aa true _ ?side1 ?side2 A4.out).mono ?_); (case side1 => exact G.cC (Kd.C_below aG.out HB.out)); (case side2 => exact aY.out); rintro e w9 ⟨rfl, hb⟩; refine ⟨_, rfl, ?_⟩; have n0 := G.bb av hb; have n1 := G.bs HB hb; clear av HB; revert n0 n1; intro av HB; (try clear hb); have ⟨cI, cJ, cL, cM⟩ := G.d2 (w := w9) av) | (go_at_call 113; (with_reducible refine (spec_l1Has.calls k ab _ _ aa a1 a2 aO _ ?side1 ?side2 A6.out).mono ?_); (case side1 => exact G.cC (Kd.C_below aG.out HB.out)); (case side2 => exact aY.out); rintro e ci ⟨rfl, hb⟩; have n0 := G.bb av hb; have n1 := G.bs HB hb; clear av HB; revert n0 n1; intro av HB; (try clear hb)))
  go_ret
  exact ⟨caan, G.cB HB.out⟩
 ·replace c5 := Bool.eq_false_iff.mpr c5; subst c5; have H1 : (some false) = some r := by rw [if_neg (show ¬ (false = true) by decide)] at H; exact H
  clear H; have H := H1; clear H1; obtain rfl := Option.some.inj H
  go_enter Try.func86, Try.ntmps86
  go_wp2_with (first | ((with_reducible refine G.h 3 rfl ?_); refine G.be 3 #[.int .i64 ab, .slice ao aa.length al] 31 ?_; intro bp hg b5 hbox hb; have n0 := G.bs HB hb; have n1 := G.m (hbox); have n2 := G.m (caam : w.heap.size ≤ bp); have n3 := G.m (caam : w.heap.size ≤ bp); clear HB; revert n0 n1 n2 n3; intro HB av ce cf; clear hb hbox hg; have ⟨cN, cO, cP, cQ⟩ := G.d2 (w := b5) av) | ((with_reducible refine G.f 32 rfl ?_); refine G.gL 8 Try.func32 #[.agg #[.int .i64 ab, .slice ao aa.length al]] ?_; (with_reducible refine (spec_NetOk.calls k ab _ _ aa false _ ?side1 ?side2 A4.out).mono ?_); (case side1 => exact G.cC (Kd.C_below aG.out HB.out)); (case side2 => exact aY.out); rintro e cX ⟨rfl, hb⟩; refine ⟨_, rfl, ?_⟩; have n0 := G.bb av hb; have n1 := G.bs HB hb; clear av HB; revert n0 n1; intro av HB; (try clear hb)))
  go_ret
  exact ⟨caan, G.cB HB.out⟩

/-! ### cmp_Or_int: function 109 -/
def cmp_Or_int.l0 : Nat → Int → List Int → Int → Int → Option (Int)
 | 0, _, _, _, _ => none
 | k + 1, x3, x6, x7, x8 => if x8 < x7 then (if 0 ≤ x8 then (if x8 < (x6.length : Int) then (if (rd x6 x8) = x3 then (cmp_Or_int.l0 k x3 x6 x7 (wrap64 (x8 + 1))) else (some (rd x6 x8))) else (none)) else (none)) else (some x3)
def cmp_Or_int.f (k : Nat) (l0 : List Int) : Option (Int) := cmp_Or_int.l0 k 0 l0 (l0.length : Int) 0
theorem cmp_Or_int.mono_l : ∀ k, (∀ y0 y1 y2 y3, LeO (cmp_Or_int.l0 k y0 y1 y2 y3) (cmp_Or_int.l0 (k + 1) y0 y1 y2 y3))
 | 0 => fun _ _ _ _ r h => by simp [cmp_Or_int.l0] at h
 | k + 1 => by
  have ap := cmp_Or_int.mono_l k
  ·intro y0 y1 y2 y3; unfold cmp_Or_int.l0
   repeat' first
   | (with_reducible exact ap _ _ _ _)
   | (with_reducible exact LeO.refl _)
   | (with_reducible exact LeO.none _)
   | (with_reducible refine LeO.ite ?_ ?_)
   | (with_reducible refine LeO.bind ?_ (fun _ => ?_))
   | exact ap _ _ _ _
   | exact LeO.none _
   | refine LeO.ite ?_ ?_
   | refine LeO.bind ?_ (fun _ => ?_)
theorem cmp_Or_int.mono : ∀ a0 k, LeO (cmp_Or_int.f k a0) (cmp_Or_int.f (k + 1) a0) := by
 intro a0 k; have ap := cmp_Or_int.mono_l k; unfold cmp_Or_int.f
 repeat' first | (with_reducible first | exact ap _ _ _ _ | exact LeO.refl _ | exact LeO.none _ | refine LeO.ite ?_ ?_ | refine LeO.bind ?_ (fun _ => ?_)) | exact ap _ _ _ _ | exact LeO.none _ | refine LeO.ite ?_ ?_ | refine LeO.bind ?_ (fun _ => ?_)
set_option maxHeartbeats 8000000 in
set_option maxRecDepth 100000 in
theorem cmp_Or_int.calls (k : Nat) (A0 : Option Addr) (c0 : Nat) (l0 : List Int) (r : Int) (w : World) (bw : Kd.C (Kd.int .i64) w A0 l0.length l0) (bx : l0.length ≤ c0) (h : cmp_Or_int.f k l0 = some r) :
  Calls Try.prog 109 #[.slice A0 l0.length c0] w fun e w' => e = .returned (.int .i64 r) ∧ Drawn0 w w' := by
 have a8 := G.m bw; have ch := G.m bx; clear bw bx; have H : (cmp_Or_int.l0 k 0 l0 (l0.length : Int) 0) = some r := h; clear h; have H' := G.m H; clear H
 go_enter Try.func109, Try.ntmps109
 go_wp2
 go_loopg [8] k (fun kq v8 w' => ∃ (ai : Int), v8 = .int .i64 ai ∧ Aside0 (cmp_Or_int.l0 kq 0 l0 (l0.length : Int) ai = some r) ∧ Aside0 (kq ≤ k) ∧ Drawn0 w w')
 case atStart => exact ⟨(0), (caal), H', ⟨Nat.le_refl _⟩, by repeat (first | exact Drawn0.refl _ | apply Drawn0.step)⟩
 case round =>
  clear H'; try clear c1
  obtain ⟨ai, rfl, HA, a5, ⟨m1, rfl⟩⟩ := hrel; cases gk with
  | zero => exact absurd HA.out (by simp [cmp_Or_int.l0])
  | succ k1 =>
   have H := HA.out; clear HA; simp only [cmp_Or_int.l0] at H
   by_cases c2 : ai < (l0.length : Int)
   ·rw [if_pos c2] at H; have bJ : decide (ai < (l0.length : Int)) = true := decide_eq_true c2; clear c2
    by_cases c3 : 0 ≤ ai
    ·rw [if_pos c3] at H; have bC : decide (0 ≤ ai) = true := decide_eq_true c3; clear c3
     by_cases c4 : ai < (l0.length : Int)
     ·rw [if_pos c4] at H; have bX : decide (ai < (l0.length : Int)) = true := decide_eq_true c4; clear c4
      by_cases c5 : (rd l0 ai) = 0
      ·rw [if_pos c5] at H; have br : ((rd l0 ai) == 0) = true := beq_iff_eq.mpr c5; have bG : ((rd l0 ai) != 0) = false := bne_eq_false_iff_eq.mpr c5; clear c5; have H' := G.m H; clear H; have bd : 0 ≤ (ai : Int) := of_decide_eq_true (G.asm); have bf : ai < (l0.length : Int) := of_decide_eq_true (G.asm); obtain ⟨cg, bK, bS⟩ := Kd.at_int a8.out ai bd bf; cases bK; replace bd := eq_true bd; replace bf := eq_true bf
       go_wp2
       go_roundg k1
       case measure => have := a5.out; omega
       case rel => exact ⟨(wrap64 (ai + 1)), (caal), H', ⟨by have := a5.out; omega⟩, by repeat (first | exact Drawn0.refl _ | apply Drawn0.step)⟩
      ·rw [if_neg c5] at H; have br : ((rd l0 ai) == 0) = false := beq_eq_false_iff_ne.mpr c5; have bG : ((rd l0 ai) != 0) = true := bne_iff_ne.mpr c5; obtain rfl := Option.some.inj H; have bd : 0 ≤ (ai : Int) := of_decide_eq_true (G.asm); have bf : ai < (l0.length : Int) := of_decide_eq_true (G.asm); obtain ⟨cg, bK, bS⟩ := Kd.at_int a8.out ai bd bf; cases bK; replace bd := eq_true bd; replace bf := eq_true bf
       go_wp2
       go_ret
       exact ⟨caal, by repeat (first | exact Drawn0.refl _ | apply Drawn0.step)⟩
     ·rw [if_neg c4] at H; exact absurd H (by simp)
    ·rw [if_neg c3] at H; exact absurd H (by simp)
   ·rw [if_neg c2] at H; have bJ : decide (ai < (l0.length : Int)) = false := decide_eq_false c2; clear c2; obtain rfl := Option.some.inj H
    go_wp2
    go_ret
    exact ⟨caal, by repeat (first | exact Drawn0.refl _ | apply Drawn0.step)⟩

/-! ### cmp_isNaN_int: function 129 -/
def cmp_isNaN_int.f (a0 : Int) : Option (Bool) := some (a0 != a0)
set_option maxHeartbeats 8000000 in
set_option maxRecDepth 100000 in
theorem cmp_isNaN_int.calls (a0 : Int) (r : Bool) (w : World) (h : cmp_isNaN_int.f a0 = some r) :
  Calls Try.prog 129 #[.int .i64 a0] w fun e w' => e = .returned (.bool r) ∧ Drawn0 w w' := by
 have H : (some (a0 != a0)) = some r := h; clear h; obtain rfl := Option.some.inj H
 go_enter Try.func129, Try.ntmps129
 go_wp2
 go_ret
 exact ⟨caal, by repeat (first | exact Drawn0.refl _ | apply Drawn0.step)⟩

/-! ### cmp_Compare_int: function 110 -/
def cmp_Compare_int.f (a0 : Int) (a1 : Int) : Option (Int) := (cmp_isNaN_int.f a0).bind fun bh => ((cmp_isNaN_int.f a1).bind fun aA => (if bh = true then (if aA = true then (some 0) else (some (-1))) else (if aA = true then (some 1) else (if a0 < a1 then (some (-1)) else (if a0 > a1 then (some 1) else (some 0))))))
set_option maxHeartbeats 8000000 in
set_option maxRecDepth 100000 in
theorem cmp_Compare_int.calls (a0 : Int) (a1 : Int) (r : Int) (w : World) (h : cmp_Compare_int.f a0 a1 = some r) :
  Calls Try.prog 110 #[.int .i64 a0, .int .i64 a1] w fun e w' => e = .returned (.int .i64 r) ∧ Drawn0 w w' := by
 have H : ((cmp_isNaN_int.f a0).bind fun bh => ((cmp_isNaN_int.f a1).bind fun aA => (if bh = true then (if aA = true then (some 0) else (some (-1))) else (if aA = true then (some 1) else (if a0 < a1 then (some (-1)) else (if a0 > a1 then (some 1) else (some 0))))))) = some r := h; clear h; obtain ⟨bh, A3, H⟩ := G.bi H; replace H : ((cmp_isNaN_int.f a1).bind fun aA => (if bh = true then (if aA = true then (some 0) else (some (-1))) else (if aA = true then (some 1) else (if a0 < a1 then (some (-1)) else (if a0 > a1 then (some 1) else (some 0)))))) = some r := H; obtain ⟨aA, A4, H⟩ := G.bi H; replace H : (if bh = true then (if aA = true then (some 0) else (some (-1))) else (if aA = true then (some 1) else (if a0 < a1 then (some (-1)) else (if a0 > a1 then (some 1) else (some 0))))) = some r := H
 by_cases c5 : bh = true
 ·subst c5; have H1 : (if aA = true then (some 0) else (some (-1))) = some r := by rw [if_pos rfl] at H; exact H
  clear H; have H := H1; clear H1
  by_cases c6 : aA = true
  ·subst c6; have H1 : (some 0) = some r := by rw [if_pos rfl] at H; exact H
   clear H; have H := H1; clear H1; obtain rfl := Option.some.inj H
   go_enter Try.func110, Try.ntmps110
   go_wp2_with (first | ((with_reducible refine G.f 129 rfl ?_); refine G.gL 8 Try.func129 #[.int .i64 a0] ?_; (with_reducible refine (cmp_isNaN_int.calls a0 true _ A3.out).mono ?_); rintro e w' ⟨rfl, ⟨nd, rfl⟩⟩; refine ⟨_, rfl, ?_⟩) | ((with_reducible refine G.f 129 rfl ?_); refine G.gL 10 Try.func129 #[.int .i64 a1] ?_; (with_reducible refine (cmp_isNaN_int.calls a1 true _ A4.out).mono ?_); rintro e w' ⟨rfl, ⟨nd, rfl⟩⟩; refine ⟨_, rfl, ?_⟩))
   go_ret
   exact ⟨caal, by repeat (first | exact Drawn0.refl _ | apply Drawn0.step)⟩
  ·replace c6 := Bool.eq_false_iff.mpr c6; subst c6; have H1 : (some (-1)) = some r := by rw [if_neg (show ¬ (false = true) by decide)] at H; exact H
   clear H; have H := H1; clear H1; obtain rfl := Option.some.inj H
   go_enter Try.func110, Try.ntmps110
   go_wp2_with (first | ((with_reducible refine G.f 129 rfl ?_); refine G.gL 8 Try.func129 #[.int .i64 a0] ?_; (with_reducible refine (cmp_isNaN_int.calls a0 true _ A3.out).mono ?_); rintro e w' ⟨rfl, ⟨nd, rfl⟩⟩; refine ⟨_, rfl, ?_⟩) | ((with_reducible refine G.f 129 rfl ?_); refine G.gL 10 Try.func129 #[.int .i64 a1] ?_; (with_reducible refine (cmp_isNaN_int.calls a1 false _ A4.out).mono ?_); rintro e w' ⟨rfl, ⟨nd, rfl⟩⟩; refine ⟨_, rfl, ?_⟩))
   go_ret
   exact ⟨caal, by repeat (first | exact Drawn0.refl _ | apply Drawn0.step)⟩
 ·replace c5 := Bool.eq_false_iff.mpr c5; subst c5; have H1 : (if aA = true then (some 1) else (if a0 < a1 then (some (-1)) else (if a0 > a1 then (some 1) else (some 0)))) = some r := by rw [if_neg (show ¬ (false = true) by decide)] at H; exact H
  clear H; have H := H1; clear H1
  by_cases c7 : aA = true
  ·subst c7; have H1 : (some 1) = some r := by rw [if_pos rfl] at H; exact H
   clear H; have H := H1; clear H1; obtain rfl := Option.some.inj H
   go_enter Try.func110, Try.ntmps110
   go_wp2_with (first | ((with_reducible refine G.f 129 rfl ?_); refine G.gL 8 Try.func129 #[.int .i64 a0] ?_; (with_reducible refine (cmp_isNaN_int.calls a0 false _ A3.out).mono ?_); rintro e w' ⟨rfl, ⟨nd, rfl⟩⟩; refine ⟨_, rfl, ?_⟩) | ((with_reducible refine G.f 129 rfl ?_); refine G.gL 10 Try.func129 #[.int .i64 a1] ?_; (with_reducible refine (cmp_isNaN_int.calls a1 true _ A4.out).mono ?_); rintro e w' ⟨rfl, ⟨nd, rfl⟩⟩; refine ⟨_, rfl, ?_⟩))
   go_ret
   exact ⟨caal, by repeat (first | exact Drawn0.refl _ | apply Drawn0.step)⟩
  ·replace c7 := Bool.eq_false_iff.mpr c7; subst c7; have H1 : (if a0 < a1 then (some (-1)) else (if a0 > a1 then (some 1) else (some 0))) = some r := by rw [if_neg (show ¬ (false = true) by decide)] at H; exact H
   clear H; have H := H1; clear H1
   by_cases c8 : a0 < a1
   ·rw [if_pos c8] at H; have bA : decide (a0 < a1) = true := decide_eq_true c8; clear c8; obtain rfl := Option.some.inj H
    go_enter Try.func110, Try.ntmps110
    go_wp2_with (first | ((with_reducible refine G.f 129 rfl ?_); refine G.gL 8 Try.func129 #[.int .i64 a0] ?_; (with_reducible refine (cmp_isNaN_int.calls a0 false _ A3.out).mono ?_); rintro e w' ⟨rfl, ⟨nd, rfl⟩⟩; refine ⟨_, rfl, ?_⟩) | ((with_reducible refine G.f 129 rfl ?_); refine G.gL 10 Try.func129 #[.int .i64 a1] ?_; (with_reducible refine (cmp_isNaN_int.calls a1 false _ A4.out).mono ?_); rintro e w' ⟨rfl, ⟨nd, rfl⟩⟩; refine ⟨_, rfl, ?_⟩))
    go_ret
    exact ⟨caal, by repeat (first | exact Drawn0.refl _ | apply Drawn0.step)⟩
   ·rw [if_neg c8] at H; have bA : decide (a0 < a1) = false := decide_eq_false c8; clear c8
    by_cases c9 : a0 > a1
    ·rw [if_pos c9] at H; have cq : decide (a1 < a0) = true := decide_eq_true c9; clear c9; obtain rfl := Option.some.inj H
     go_enter Try.func110, Try.ntmps110
     go_wp2_with (first | ((with_reducible refine G.f 129 rfl ?_); refine G.gL 8 Try.func129 #[.int .i64 a0] ?_; (with_reducible refine (cmp_isNaN_int.calls a0 false _ A3.out).mono ?_); rintro e w' ⟨rfl, ⟨nd, rfl⟩⟩; refine ⟨_, rfl, ?_⟩) | ((with_reducible refine G.f 129 rfl ?_); refine G.gL 10 Try.func129 #[.int .i64 a1] ?_; (with_reducible refine (cmp_isNaN_int.calls a1 false _ A4.out).mono ?_); rintro e w' ⟨rfl, ⟨nd, rfl⟩⟩; refine ⟨_, rfl, ?_⟩))
     go_ret
     exact ⟨caal, by repeat (first | exact Drawn0.refl _ | apply Drawn0.step)⟩
    ·rw [if_neg c9] at H; have cq : decide (a1 < a0) = false := decide_eq_false c9; clear c9; obtain rfl := Option.some.inj H
     go_enter Try.func110, Try.ntmps110
     go_wp2_with (first | ((with_reducible refine G.f 129 rfl ?_); refine G.gL 8 Try.func129 #[.int .i64 a0] ?_; (with_reducible refine (cmp_isNaN_int.calls a0 false _ A3.out).mono ?_); rintro e w' ⟨rfl, ⟨nd, rfl⟩⟩; refine ⟨_, rfl, ?_⟩) | ((with_reducible refine G.f 129 rfl ?_); refine G.gL 10 Try.func129 #[.int .i64 a1] ?_; (with_reducible refine (cmp_isNaN_int.calls a1 false _ A4.out).mono ?_); rintro e w' ⟨rfl, ⟨nd, rfl⟩⟩; refine ⟨_, rfl, ?_⟩))
     go_ret
     exact ⟨caal, by repeat (first | exact Drawn0.refl _ | apply Drawn0.step)⟩

/-! ### impl_tieOrder: function 80 -/
def impl_tieOrder.f (k : Nat) (ab : Int) (aD : Int) (a4 : Int) (aP : Int) : Option (Int) := (cmp_Compare_int.f ab a4).bind fun aE => ((cmp_Compare_int.f aD aP).bind fun aB => ((cmp_Or_int.f k (([aE, aB] : List Int))).bind fun aF => (some aF)))
theorem impl_tieOrder.mono : ∀ a0 a1 a2 a3 k, LeO (impl_tieOrder.f k a0 a1 a2 a3) (impl_tieOrder.f (k + 1) a0 a1 a2 a3) := by
 intro a0 a1 a2 a3 k; unfold impl_tieOrder.f
 repeat' first | (with_reducible first | exact cmp_Or_int.mono _ _ | exact LeO.refl _ | exact LeO.none _ | refine LeO.ite ?_ ?_ | refine LeO.bind ?_ (fun _ => ?_)) | exact cmp_Or_int.mono _ _ | exact LeO.none _ | refine LeO.ite ?_ ?_ | refine LeO.bind ?_ (fun _ => ?_)
def impl_tieOrder.T1 : Bool × List (List Nat × List Nat) := (true, [([], []), ([0], [0]), ([], []), ([2], [2]), ([1, 3], [1, 3]), ([], []), ([5], [5]), ([], []), ([7], [7]), ([6, 8, 4], [6, 8]), ([4, 9], [4, 9]), ([10, 9], [10]), ([11, 11, 0, 1, 2, 3, 4, 5, 6, 7, 8, 9, 10, 11], [11])])
def impl_tieOrder.B1 : List Nat := [0, 1, 0, 4, 15, 0, 32, 0, 128, 511, 1023, 2047, 4095]
theorem impl_tieOrder.tab1 : rtab .any (opsOf Try.f80 1) = impl_tieOrder.T1 := by kernel_rfl
theorem impl_tieOrder.bits1 : waitsOk impl_tieOrder.T1.2 impl_tieOrder.B1 = true := by kernel_rfl
set_option maxHeartbeats 8000000 in
set_option maxRecDepth 100000 in
theorem impl_tieOrder.calls (k : Nat) (ab : Int) (aD : Int) (a4 : Int) (aP : Int) (r : Int) (w : World) (h : impl_tieOrder.f k ab aD a4 aP = some r) :
  Calls Try.prog 80 #[.agg #[.int .i64 ab, .int .i64 aD], .agg #[.int .i64 a4, .int .i64 aP]] w fun e w' => e = .returned (.int .i64 r) ∧ Below w.heap.size w w' := by
 have bF := Try.underlying59; have HB := G.m (Below.refl w.heap.size w); have H : ((cmp_Compare_int.f ab a4).bind fun aE => ((cmp_Compare_int.f aD aP).bind fun aB => ((cmp_Or_int.f k (([aE, aB] : List Int))).bind fun aF => (some aF)))) = some r := h; clear h; obtain ⟨aE, A3, H⟩ := G.bi H; replace H : ((cmp_Compare_int.f aD aP).bind fun aB => ((cmp_Or_int.f k (([aE, aB] : List Int))).bind fun aF => (some aF))) = some r := H; obtain ⟨aB, A4, H⟩ := G.bi H; replace H : ((cmp_Or_int.f k (([aE, aB] : List Int))).bind fun aF => (some aF)) = some r := H; obtain ⟨bL, bq⟩ : ∃ y_ : List Int, y_ = (([aE, aB] : List Int)) := ⟨_, rfl⟩; replace H : ((cmp_Or_int.f k bL).bind fun aF => (some aF)) = some r := by first | (rw [bq]; with_reducible exact H) | (have b6 := (Option.bind_some _ _).symm.trans H; rw [bq]; with_reducible exact b6) | (have b6 := (Option.bind_some _ _).symm.trans H; with_reducible exact b6) | with_reducible exact H | (rw [bq]; exact H) | exact H
 have bP := G.m bq; clear bq; obtain ⟨aF, A5, H⟩ := G.bi H; replace H : (some aF) = some r := H; obtain rfl := Option.some.inj H
 go_enter Try.func80, Try.ntmps80; try go_wp2_with (first | ((with_reducible refine G.h 2 rfl ?_); refine G.be 2 #[.int .i64 ab, .int .i64 aD] 59 ?_; intro aM hg w6 hbox hb; have n0 := G.bs HB hb; have n1 := G.m (hbox); have n2 := G.m (caam : w.heap.size ≤ aM); have n3 := G.m (caam : w.heap.size ≤ aM); clear HB; revert n0 n1 n2 n3; intro HB ag dg dh; clear hb hbox hg) | ((with_reducible refine G.h 3 rfl ?_); refine G.be 3 #[.int .i64 a4, .int .i64 aP] 59 ?_; intro a7 hg w7 hbox hb; have n0 := G.bb ag hb; have n1 := G.bs HB hb; have n2 := G.m (hbox); have n3 := G.m (caam : w.heap.size ≤ a7); have n4 := G.m (caam : w.heap.size ≤ a7); have n5 := G.m ((by rw [hg]; exact Nat.ne_of_lt (blk_lt (g := aM) (o := .cells #[.int .i64 ab, .int .i64 aD] 59 (0, 0)) (G.cb ag.out)) : aM ≠ a7)); have n6 := G.m ((by rw [hg]; exact Nat.ne_of_gt (blk_lt (g := aM) (o := .cells #[.int .i64 ab, .int .i64 aD] 59 (0, 0)) (G.cb ag.out)) : a7 ≠ aM)); clear ag HB; revert n0 n1 n2 n3 n4 n5 n6; intro ag HB aj di dj cj ck; clear hb hbox hg))
 have n0 := G.m (blk_drew ag.out); have n1 := G.m (blk_drew aj.out); have n2 := G.m (below_drew1 HB.out); clear ag aj HB; revert n0 n1 n2; intro ag aj HB; refine G.st 13 (S := fun w' => w'.cell? ⟨aM, 0, none⟩ = some (.int .i64 ab) ∧ w'.cell? ⟨aM, 1, none⟩ = some (.int .i64 aD) ∧ w'.cell? ⟨a7, 0, none⟩ = some (.int .i64 a4) ∧ w'.cell? ⟨a7, 1, none⟩ = some (.int .i64 aP)) [] ⟨G.z ag 0, G.z ag 1, G.z aj 0, G.z aj 1⟩ impl_tieOrder.tab1 impl_tieOrder.bits1 (fun hHeld HT_ HW_ => ?_); generalize w7.drew = w8 at ag aj HB hHeld ⊢; refine G.pu 0 5 1 ?_; refine G.pu 2 7 5 ?_; refine G.pu 5 10 37 ?_; refine G.pu 7 12 165 ?_; refine G.ta4 1 6 167 ?_; refine G.ta4 3 8 175 ?_; refine G.ta4 6 11 239 ?_; refine G.ta4 8 13 495 ?_; refine G.on 4 9 511 (fun K hK => ?_); refine G.gs Try.func110 #[.int .i64 ab, .int .i64 a4] ?_; with_reducible refine (cmp_Compare_int.calls ab a4 aE _ A3.out).mono ?_
 rintro e w' ⟨rfl, ⟨nd, rfl⟩⟩; refine ⟨_, rfl, ?_⟩; refine hK.out _ _ ⟨G.z ag 0, G.z ag 1, G.z aj 0, G.z aj 1⟩ (fun hHeld => ?_); clear hK K; refine G.no 9 ?_; refine G.on 9 14 1023 (fun K hK => ?_); refine G.gs Try.func110 #[.int .i64 aD, .int .i64 aP] ?_; with_reducible refine (cmp_Compare_int.calls aD aP aB _ A4.out).mono ?_
 rintro e w' ⟨rfl, ⟨nd, rfl⟩⟩; refine ⟨_, rfl, ?_⟩; refine hK.out _ _ ⟨G.z ag 0, G.z ag 1, G.z aj 0, G.z aj 1⟩ (fun hHeld => ?_); clear hK K; refine G.no 14 ?_; refine G.on 10 15 2047 (fun K hK => ?_); refine Kd.R_lit_step (Kd.int .i64) _ 3 ?hg (N := 15) ?hd (xs := ([aE, aB] : List Int)) (inner := [.int .i64 aE, .int .i64 aB]) (ok := fun _ => True) (okp := fun _ => True) ?hr ?hp (fun _ hk => hk) trivial (Below.refl _ _) (Nat.le_refl _) (by simp) ?_; (case hd => rfl); (case hg => rfl); (case hr => first | (go_simp; done) | (go_simp; rfl)); (case hp => exact (Reps.one (show Kd.M (Kd.int .i64) _ _ _ aE [.int .i64 aE] from rfl) (Reps.one (show Kd.M (Kd.int .i64) _ _ _ aB [.int .i64 aB] from rfl) (Reps.none _ _)))); intro dn w9 bB hb hg_ hnew_; clear hg_ hnew_; (first | rw [← bP.out] at bB | (simp only [Int.reduceToNat] at bB; rw [← bP.out] at bB)); have n0 := G.m (Kd.R_lower bB (below_size (G.cB HB.out))); have n1 := G.bb ag hb; have n2 := G.bb aj hb; have n3 := G.bs HB hb; clear ag aj HB; revert n0 n1 n2 n3; intro bD ag aj HB; clear hb bB; obtain ⟨cr, ct, b7⟩ := Kd.R_slice bD.out; (first | subst b7 | (injection b7 with cl db cm; have dc := cl.symm; have dd := cm.symm; clear cl db cm; subst dc; subst dd)); refine hK.out _ _ ⟨G.z ag 0, G.z ag 1, G.z aj 0, G.z aj 1⟩ (fun hHeld => ?_); clear hK K; refine G.no 15 ?_; refine G.on 11 16 4095 (fun K hK => ?_); refine G.gs Try.func109 #[.slice cr bL.length ct] ?_; with_reducible refine (cmp_Or_int.calls k _ _ bL aF _ ?side1 ?side2 A5.out).mono ?_
 (case side1 => exact G.cC (Kd.R_reads' bD.out).2.2); (case side2 => exact (Kd.R_reads' bD.out).2.1); rintro e w' ⟨rfl, ⟨nd, rfl⟩⟩; refine ⟨_, rfl, ?_⟩; refine hK.out _ _ ⟨G.z ag 0, G.z ag 1, G.z aj 0, G.z aj 1⟩ (fun hHeld => ?_); clear hK K; refine G.no 16 ?_; refine G.pu 12 4 8191 ?_; refine done_ (done_of HT_.out (caao)) ?_; try go_wp2
 go_ret
 exact ⟨caan, G.cB HB.out⟩

/-! ### impl_ascending: function 88 -/
def impl_ascending.l0 : Nat → List (S59) → Int → Option (Bool)
 | 0, _, _ => none
 | k + 1, x0, x3 => if x3 < (x0.length : Int) then (if 0 ≤ (wrap64 (x3 - 1)) then (if (wrap64 (x3 - 1)) < (x0.length : Int) then (if 0 ≤ x3 then ((impl_tieOrder.f k ((rd_T59 x0 (wrap64 (x3 - 1))).f0) ((rd_T59 x0 (wrap64 (x3 - 1))).f1) ((rd_T59 x0 x3).f0) ((rd_T59 x0 x3).f1)).bind fun aQ => (if aQ ≥ 0 then (some false) else (impl_ascending.l0 k x0 (wrap64 (x3 + 1))))) else (none)) else (none)) else (none)) else (some true)
def impl_ascending.f (k : Nat) (l0 : List (S59)) : Option (Bool) := impl_ascending.l0 k l0 1
theorem impl_ascending.mono_l : ∀ k, (∀ y0 y1, LeO (impl_ascending.l0 k y0 y1) (impl_ascending.l0 (k + 1) y0 y1))
 | 0 => fun _ _ r h => by simp [impl_ascending.l0] at h
 | k + 1 => by
  have ap := impl_ascending.mono_l k
  ·intro y0 y1; unfold impl_ascending.l0
   repeat' first
   | (with_reducible exact ap _ _)
   | (with_reducible exact impl_tieOrder.mono _ _ _ _ _)
   | (with_reducible exact LeO.refl _)
   | (with_reducible exact LeO.none _)
   | (with_reducible refine LeO.ite ?_ ?_)
   | (with_reducible refine LeO.bind ?_ (fun _ => ?_))
   | exact ap _ _
   | exact impl_tieOrder.mono _ _ _ _ _
   | exact LeO.none _
   | refine LeO.ite ?_ ?_
   | refine LeO.bind ?_ (fun _ => ?_)
theorem impl_ascending.mono : ∀ a0 k, LeO (impl_ascending.f k a0) (impl_ascending.f (k + 1) a0) := by
 intro a0 k; have ap := impl_ascending.mono_l k; unfold impl_ascending.f
 repeat' first | (with_reducible first | exact ap _ _ | exact impl_tieOrder.mono _ _ _ _ _ | exact LeO.refl _ | exact LeO.none _ | refine LeO.ite ?_ ?_ | refine LeO.bind ?_ (fun _ => ?_)) | exact ap _ _ | exact impl_tieOrder.mono _ _ _ _ _ | exact LeO.none _ | refine LeO.ite ?_ ?_ | refine LeO.bind ?_ (fun _ => ?_)
def impl_ascending.T4 : Bool × List (List Nat × List Nat) := (true, [([], []), ([], []), ([1], [1]), ([0, 2], [0, 2]), ([3], [3]), ([], []), ([], []), ([5, 6], [5, 6]), ([7], [7]), ([4, 8], [4, 8]), ([9], [9])])
def impl_ascending.B4 : List Nat := [0, 0, 2, 7, 15, 0, 0, 96, 224, 511, 1023]
theorem impl_ascending.tab4 : rtab .any (opsOf Try.f88 4) = impl_ascending.T4 := by kernel_rfl
theorem impl_ascending.bits4 : waitsOk impl_ascending.T4.2 impl_ascending.B4 = true := by kernel_rfl
set_option maxHeartbeats 8000000 in
set_option maxRecDepth 100000 in
theorem impl_ascending.calls (k : Nat) (A0 : Option Addr) (c0 : Nat) (l0 : List (S59)) (r : Bool) (w : World) (bw : Kd.C k59 w A0 l0.length l0) (bx : l0.length ≤ c0) (h : impl_ascending.f k l0 = some r) :
  Calls Try.prog 88 #[.slice A0 l0.length c0] w fun e w' => e = .returned (.bool r) ∧ Below w.heap.size w w' := by
 have bF := Try.underlying59; have a8 := G.m bw; have ch := G.m bx; clear bw bx; have HB := G.m (Below.refl w.heap.size w); have H : (impl_ascending.l0 k l0 1) = some r := h; clear h; have H' := G.m H; clear H
 go_enter Try.func88, Try.ntmps88
 go_wp2
 go_loopg [3] k (fun kq v3 w' => ∃ (ae : Int), v3 = .int .i64 ae ∧ Aside0 (impl_ascending.l0 kq l0 ae = some r) ∧ Aside0 (kq ≤ k) ∧ Aside0 (Below w.heap.size w w'))
 case atStart => exact ⟨(1), (caal), H', ⟨Nat.le_refl _⟩, ⟨G.cB HB.out⟩⟩
 case round =>
  clear H'; obtain ⟨ae, rfl, HA, a5, HB⟩ := hrel; cases gk with
  | zero => exact absurd HA.out (by simp [impl_ascending.l0])
  | succ k1 =>
   have H := HA.out; clear HA; simp only [impl_ascending.l0] at H
   by_cases c2 : ae < (l0.length : Int)
   ·rw [if_pos c2] at H; have bJ : decide (ae < (l0.length : Int)) = true := decide_eq_true c2; clear c2; obtain ⟨ah, bz⟩ : ∃ j_ : Int, (wrap64 (ae - 1)) = j_ := ⟨_, rfl⟩; replace H : (if 0 ≤ (ah) then (if (ah) < (l0.length : Int) then (if 0 ≤ ae then ((impl_tieOrder.f k1 ((rd_T59 l0 (ah)).f0) ((rd_T59 l0 (ah)).f1) ((rd_T59 l0 ae).f0) ((rd_T59 l0 ae).f1)).bind fun aQ => (if aQ ≥ 0 then (some false) else (impl_ascending.l0 k1 l0 (wrap64 (ae + 1))))) else (none)) else (none)) else (none)) = some r := by first | (rw [bz] at H; exact H) | (simp only [bz] at H ⊢; exact H)
    have dk : (IntKind.i64.wrap (ae - 1)) = ah := (i64_w _).trans bz
    by_cases c4 : 0 ≤ (ah)
    ·rw [if_pos c4] at H; have bX : decide (0 ≤ (ah)) = true := decide_eq_true c4; clear c4
     by_cases c5 : (ah) < (l0.length : Int)
     ·rw [if_pos c5] at H; have br : decide ((ah) < (l0.length : Int)) = true := decide_eq_true c5; clear c5
      by_cases c6 : 0 ≤ ae
      ·rw [if_pos c6] at H; have cn : decide (0 ≤ ae) = true := decide_eq_true c6; clear c6; obtain ⟨aQ, A7, H⟩ := G.bi H; replace H : (if aQ ≥ 0 then (some false) else (impl_ascending.l0 k1 l0 (wrap64 (ae + 1)))) = some r := H
       by_cases c8 : aQ ≥ 0
       ·rw [if_pos c8] at H; have bA : decide (0 ≤ aQ) = true := decide_eq_true c8; clear c8; obtain rfl := Option.some.inj H; try go_wp2
        have n0 := G.m (below_drew1 HB.out); clear HB; revert n0; intro HB; have bj : 0 ≤ ((ah) : Int) := of_decide_eq_true (G.asm); have bk : (ah) < (l0.length : Int) := of_decide_eq_true (G.asm); obtain ⟨am, bM, aw, ax⟩ := at_T59 a8.out (ah) bj bk; have aT := ax; have aU := aw; cases bM; replace aw := G.hx HB aw; replace ax := G.hx HB ax; replace bj := eq_true bj; replace bk := eq_true bk; have bl : 0 ≤ (ae : Int) := of_decide_eq_true (G.asm); have bm : ae < (l0.length : Int) := of_decide_eq_true (G.asm); obtain ⟨bE, bN, ay, az⟩ := at_T59 a8.out ae bl bm; have aV := az; have aW := ay; obtain rfl : am = bE := (by injection bN); replace ay := G.hx HB ay; replace az := G.hx HB az; replace bl := eq_true bl; replace bm := eq_true bm; refine G.st 11 (S := fun w' => w'.cell? (am.add (((ah)).toNat * 2)) = some (.int .i64 ((rd_T59 l0 (ah)).f0)) ∧ w'.cell? ⟨(am.add (((ah)).toNat * 2)).block, (am.add (((ah)).toNat * 2)).off + 1, none⟩ = some (.int .i64 ((rd_T59 l0 (ah)).f1)) ∧ w'.cell? (am.add ((ae).toNat * 2)) = some (.int .i64 ((rd_T59 l0 ae).f0)) ∧ w'.cell? ⟨(am.add ((ae).toNat * 2)).block, (am.add ((ae).toNat * 2)).off + 1, none⟩ = some (.int .i64 ((rd_T59 l0 ae).f1))) [] ⟨(G.hx HB aU), (G.hx HB aT), (G.hx HB aW), (G.hx HB aV)⟩ impl_ascending.tab4 impl_ascending.bits4 (fun hHeld HT_ HW_ => ?_); generalize wr.drew = w9 at HB aw ax ay az hHeld ⊢; refine G.pu 0 10 1 ?_; refine G.pu 1 11 3 ?_; refine G.pu 2 12 7 ?_; refine G.pu 3 13 15 ?_; refine G.pu 5 15 47 ?_; refine G.pu 6 16 111 ?_; refine G.pu 7 17 239 ?_; refine G.ta4 4 14 255 ?_; refine G.ta4 8 18 511 ?_; refine G.on 9 19 1023 (fun K hK => ?_); refine goes_ Try.func80 (caao) rfl #[.agg #[.int .i64 ((rd_T59 l0 (ah)).f0), .int .i64 ((rd_T59 l0 (ah)).f1)], .agg #[.int .i64 ((rd_T59 l0 ae).f0), .int .i64 ((rd_T59 l0 ae).f1)]] (by rfl) rfl rfl (caap) ?_; with_reducible refine (impl_tieOrder.calls k1 ((rd_T59 l0 (ah)).f0) ((rd_T59 l0 (ah)).f1) ((rd_T59 l0 ae).f0) ((rd_T59 l0 ae).f1) aQ _ A7.out).mono ?_
        rintro e b4 ⟨rfl, hb⟩; refine ⟨_, rfl, ?_⟩; have n0 := G.bs HB hb; clear HB; revert n0; intro HB; (try clear hb); refine hK.out _ _ ⟨(G.hx HB aU), (G.hx HB aT), (G.hx HB aW), (G.hx HB aV)⟩ (fun hHeld => ?_); clear hK K; refine G.no 19 ?_; refine G.pu 10 20 2047 ?_; refine done_ (done_of HT_.out (caao)) ?_; try go_wp2
        go_ret
        exact ⟨by first | rfl | (simp [errW_none, errW_some] <;> rfl) | (simp only [← bz]; first | rfl | (simp [errW_none, errW_some] <;> rfl)) | (simp [*, errW_none, errW_some] <;> rfl), G.cB HB.out⟩
       ·rw [if_neg c8] at H; have bA : decide (0 ≤ aQ) = false := decide_eq_false c8; clear c8; have H' := G.m H; clear H; try go_wp2
        have n0 := G.m (below_drew1 HB.out); clear HB; revert n0; intro HB; have bj : 0 ≤ ((ah) : Int) := of_decide_eq_true (G.asm); have bk : (ah) < (l0.length : Int) := of_decide_eq_true (G.asm); obtain ⟨am, bM, aw, ax⟩ := at_T59 a8.out (ah) bj bk; have aT := ax; have aU := aw; cases bM; replace aw := G.hx HB aw; replace ax := G.hx HB ax; replace bj := eq_true bj; replace bk := eq_true bk; have bl : 0 ≤ (ae : Int) := of_decide_eq_true (G.asm); have bm : ae < (l0.length : Int) := of_decide_eq_true (G.asm); obtain ⟨bE, bN, ay, az⟩ := at_T59 a8.out ae bl bm; have aV := az; have aW := ay; obtain rfl : am = bE := (by injection bN); replace ay := G.hx HB ay; replace az := G.hx HB az; replace bl := eq_true bl; replace bm := eq_true bm; refine G.st 11 (S := fun w' => w'.cell? (am.add (((ah)).toNat * 2)) = some (.int .i64 ((rd_T59 l0 (ah)).f0)) ∧ w'.cell? ⟨(am.add (((ah)).toNat * 2)).block, (am.add (((ah)).toNat * 2)).off + 1, none⟩ = some (.int .i64 ((rd_T59 l0 (ah)).f1)) ∧ w'.cell? (am.add ((ae).toNat * 2)) = some (.int .i64 ((rd_T59 l0 ae).f0)) ∧ w'.cell? ⟨(am.add ((ae).toNat * 2)).block, (am.add ((ae).toNat * 2)).off + 1, none⟩ = some (.int .i64 ((rd_T59 l0 ae).f1))) [] ⟨(G.hx HB aU), (G.hx HB aT), (G.hx HB aW), (G.hx HB aV)⟩ impl_ascending.tab4 impl_ascending.bits4 (fun hHeld HT_ HW_ => ?_); generalize wr.drew = ci at HB aw ax ay az hHeld ⊢; refine G.pu 0 10 1 ?_; refine G.pu 1 11 3 ?_; refine G.pu 2 12 7 ?_; refine G.pu 3 13 15 ?_; refine G.pu 5 15 47 ?_; refine G.pu 6 16 111 ?_; refine G.pu 7 17 239 ?_; refine G.ta4 4 14 255 ?_; refine G.ta4 8 18 511 ?_; refine G.on 9 19 1023 (fun K hK => ?_); refine goes_ Try.func80 (caao) rfl #[.agg #[.int .i64 ((rd_T59 l0 (ah)).f0), .int .i64 ((rd_T59 l0 (ah)).f1)], .agg #[.int .i64 ((rd_T59 l0 ae).f0), .int .i64 ((rd_T59 l0 ae).f1)]] (by rfl) rfl rfl (caap) ?_; with_reducible refine (impl_tieOrder.calls k1 ((rd_T59 l0 (ah)).f0) ((rd_T59 l0 (ah)).f1) ((rd_T59 l0 ae).f0) ((rd_T59 l0 ae).f1) aQ _ A7.out).mono ?_
        rintro e b5 ⟨rfl, hb⟩; refine ⟨_, rfl, ?_⟩; have n0 := G.bs HB hb; clear HB; revert n0; intro HB; (try clear hb); refine hK.out _ _ ⟨(G.hx HB aU), (G.hx HB aT), (G.hx HB aW), (G.hx HB aV)⟩ (fun hHeld => ?_); clear hK K; refine G.no 19 ?_; refine G.pu 10 20 2047 ?_; refine done_ (done_of HT_.out (caao)) ?_; try go_wp2
        go_roundg k1
        case measure => have := a5.out; omega
        case rel => exact ⟨(wrap64 (ae + 1)), (caal), H', ⟨by have := a5.out; omega⟩, ⟨G.cB HB.out⟩⟩
      ·rw [if_neg c6] at H; exact absurd H (by simp)
     ·rw [if_neg c5] at H; exact absurd H (by simp)
    ·rw [if_neg c4] at H; exact absurd H (by simp)
   ·rw [if_neg c2] at H; have bJ : decide (ae < (l0.length : Int)) = false := decide_eq_false c2; clear c2; obtain rfl := Option.some.inj H
    go_wp2
    go_ret
    exact ⟨caan, G.cB HB.out⟩

end Go.Proofs.Ytgeonpciodepgaa.P
