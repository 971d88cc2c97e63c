-- Printed by a program of this session (mp.py, over the kit's print). Not trusted: Lean checks it.
import Derived.Test.YtddadihobjinhaaF0
namespace Go.Proofs.Ytddadihobjinhaa.P
open Go.RowKit Go.Proofs.YtddadihobjinhaaW.PrintWords Go.Proofs.YtddadihobjinhaaW.PrintLast Go.Proofs.YtddadihobjinhaaW.PrintMore
attribute [local go_sem] max2_int min2_int max_two min_two max_three min_three max_four min_four   -- for this text's walks alone
set_option linter.unusedVariables false
set_option linter.unusedSimpArgs false

theorem caar {p : Prop} (h : p := by (try simp only [List.map_toArray, List.map_cons, List.map_nil]); first | done | (simp only [bd]; rfl) | rfl | (simp only [List.length_drop, List.length_take]; rfl)) : p := h
theorem caap {p : Prop} (h : p := by rw [hg]; exact Nat.ne_of_lt (blk_lt (g := aq) (o := .cells #[.int .i64 ae, .slice (some a7) aa.length aR] 30 (0, 0)) (G.cb af.out))) : p := h
theorem caaq {p : Prop} (h : p := by rw [hg]; exact Nat.ne_of_gt (blk_lt (g := aq) (o := .cells #[.int .i64 ae, .slice (some a7) aa.length aR] 30 (0, 0)) (G.cb af.out))) : p := h
theorem caan {p : Prop} (h : p := by first | rfl | (simp [errW_none, errW_some] <;> rfl) | (simp [*, errW_none, errW_some] <;> rfl)) : p := h
theorem caal {p : Prop} (h : p := by first | rfl | (simp; done) | (simp [*]; done)) : p := h
theorem caam {p : Prop} (h : p := by rw [hg]; exact (below_size (G.cB HB.out))) : p := h
theorem caao {p : Prop} (h : p := by kernel_rfl) : p := h
/-! ### cmp_Or_int: function 89 -/
def cmp_Or_int.l0 : Nat → Int → List Int → Int → Int → Option (Int)
 | 0, _, _, _, _ => none
 | k + 1, x3, x6, x7, x8 => if x8 < x7 then (if 0 ≤ x8 then (if x8 < (x6.length : Int) then (if (rd x6 x8) = x3 then (cmp_Or_int.l0 k x3 x6 x7 (wrap64 (x8 + 1))) else (some (rd x6 x8))) else (none)) else (none)) else (some x3)
def cmp_Or_int.f (k : Nat) (l0 : List Int) : Option (Int) := cmp_Or_int.l0 k 0 l0 (l0.length : Int) 0
theorem cmp_Or_int.mono_l : ∀ k, (∀ y0 y1 y2 y3, LeO (cmp_Or_int.l0 k y0 y1 y2 y3) (cmp_Or_int.l0 (k + 1) y0 y1 y2 y3))
 | 0 => fun _ _ _ _ r h => by simp [cmp_Or_int.l0] at h
 | k + 1 => by
  have aD := cmp_Or_int.mono_l k
  ·intro y0 y1 y2 y3; unfold cmp_Or_int.l0
   repeat' first
   | (with_reducible exact aD _ _ _ _)
   | (with_reducible exact LeO.refl _)
   | (with_reducible exact LeO.none _)
   | (with_reducible refine LeO.ite ?_ ?_)
   | (with_reducible refine LeO.bind ?_ (fun _ => ?_))
   | exact aD _ _ _ _
   | exact LeO.none _
   | refine LeO.ite ?_ ?_
   | refine LeO.bind ?_ (fun _ => ?_)
theorem cmp_Or_int.mono : ∀ a0 k, LeO (cmp_Or_int.f k a0) (cmp_Or_int.f (k + 1) a0) := by
 intro a0 k; have aD := cmp_Or_int.mono_l k; unfold cmp_Or_int.f
 repeat' first | (with_reducible first | exact aD _ _ _ _ | exact LeO.refl _ | exact LeO.none _ | refine LeO.ite ?_ ?_ | refine LeO.bind ?_ (fun _ => ?_)) | exact aD _ _ _ _ | exact LeO.none _ | refine LeO.ite ?_ ?_ | refine LeO.bind ?_ (fun _ => ?_)
set_option maxHeartbeats 8000000 in
set_option maxRecDepth 100000 in
theorem cmp_Or_int.calls (k : Nat) (A0 : Option Addr) (c0 : Nat) (l0 : List Int) (r : Int) (w : World) (bu : Kd.C (Kd.int .i64) w A0 l0.length l0) (bv : l0.length ≤ c0) (h : cmp_Or_int.f k l0 = some r) :
  Calls Try.prog 89 #[.slice A0 l0.length c0] w fun e w' => e = .returned (.int .i64 r) ∧ Drawn0 w w' := by
 have bf := G.m bu; have cJ := G.m bv; clear bu bv; have H : (cmp_Or_int.l0 k 0 l0 (l0.length : Int) 0) = some r := h; clear h; have H' := G.m H; clear H
 go_enter Try.func89, Try.ntmps89
 go_wp2
 go_loopg [8] k (fun kq v8 w' => ∃ (aj : Int), v8 = .int .i64 aj ∧ Aside0 (cmp_Or_int.l0 kq 0 l0 (l0.length : Int) aj = some r) ∧ Aside0 (kq ≤ k) ∧ Drawn0 w w')
 case atStart => exact ⟨(0), (caal), H', ⟨Nat.le_refl _⟩, by repeat (first | exact Drawn0.refl _ | apply Drawn0.step)⟩
 case round =>
  clear H'; obtain ⟨aj, rfl, HA, bw, ⟨m1, rfl⟩⟩ := hrel; cases gk with
  | zero => exact absurd HA.out (by simp [cmp_Or_int.l0])
  | succ k1 =>
   have H := HA.out; clear HA; simp only [cmp_Or_int.l0] at H
   by_cases c2 : aj < (l0.length : Int)
   ·rw [if_pos c2] at H; have bz : decide (aj < (l0.length : Int)) = true := decide_eq_true c2; clear c2
    by_cases c3 : 0 ≤ aj
    ·rw [if_pos c3] at H; have dx : decide (0 ≤ aj) = true := decide_eq_true c3; clear c3
     by_cases c4 : aj < (l0.length : Int)
     ·rw [if_pos c4] at H; have aU : decide (aj < (l0.length : Int)) = true := decide_eq_true c4; clear c4
      by_cases c5 : (rd l0 aj) = 0
      ·rw [if_pos c5] at H; have bL : ((rd l0 aj) == 0) = true := beq_iff_eq.mpr c5; have b_ : ((rd l0 aj) != 0) = false := bne_eq_false_iff_eq.mpr c5; clear c5; have H' := G.m H; clear H; have aV : 0 ≤ (aj : Int) := of_decide_eq_true (G.asm); have aW : aj < (l0.length : Int) := of_decide_eq_true (G.asm); obtain ⟨bV, bA, bK⟩ := Kd.at_int bf.out aj aV aW; cases bA; replace aV := eq_true aV; replace aW := eq_true aW
       go_wp2
       go_roundg k1
       case measure => have := bw.out; omega
       case rel => exact ⟨(wrap64 (aj + 1)), (caal), H', ⟨by have := bw.out; omega⟩, by repeat (first | exact Drawn0.refl _ | apply Drawn0.step)⟩
      ·rw [if_neg c5] at H; have bL : ((rd l0 aj) == 0) = false := beq_eq_false_iff_ne.mpr c5; have b_ : ((rd l0 aj) != 0) = true := bne_iff_ne.mpr c5; obtain rfl := Option.some.inj H; have aV : 0 ≤ (aj : Int) := of_decide_eq_true (G.asm); have aW : aj < (l0.length : Int) := of_decide_eq_true (G.asm); obtain ⟨bV, bA, bK⟩ := Kd.at_int bf.out aj aV aW; cases bA; replace aV := eq_true aV; replace aW := eq_true aW
       go_wp2
       go_ret
       exact ⟨caal, by repeat (first | exact Drawn0.refl _ | apply Drawn0.step)⟩
     ·rw [if_neg c4] at H; exact absurd H (by simp)
    ·rw [if_neg c3] at H; exact absurd H (by simp)
   ·rw [if_neg c2] at H; have bz : decide (aj < (l0.length : Int)) = false := decide_eq_false c2; clear c2; obtain rfl := Option.some.inj H
    go_wp2
    go_ret
    exact ⟨caal, by repeat (first | exact Drawn0.refl _ | apply Drawn0.step)⟩

/-! ### cmp_isNaN_int: function 107 -/
def cmp_isNaN_int.f (a0 : Int) : Option (Bool) := some (a0 != a0)
set_option maxHeartbeats 8000000 in
set_option maxRecDepth 100000 in
theorem cmp_isNaN_int.calls (a0 : Int) (r : Bool) (w : World) (h : cmp_isNaN_int.f a0 = some r) :
  Calls Try.prog 107 #[.int .i64 a0] w fun e w' => e = .returned (.bool r) ∧ Drawn0 w w' := by
 have H : (some (a0 != a0)) = some r := h; clear h; obtain rfl := Option.some.inj H
 go_enter Try.func107, Try.ntmps107
 go_wp2
 go_ret
 exact ⟨caal, by repeat (first | exact Drawn0.refl _ | apply Drawn0.step)⟩

/-! ### cmp_Compare_int: function 90 -/
def cmp_Compare_int.f (a0 : Int) (a1 : Int) : Option (Int) := (cmp_isNaN_int.f a0).bind fun aX => ((cmp_isNaN_int.f a1).bind fun az => (if aX = true then (if az = true then (some 0) else (some (-1))) else (if az = true then (some 1) else (if a0 < a1 then (some (-1)) else (if a0 > a1 then (some 1) else (some 0))))))
set_option maxHeartbeats 8000000 in
set_option maxRecDepth 100000 in
theorem cmp_Compare_int.calls (a0 : Int) (a1 : Int) (r : Int) (w : World) (h : cmp_Compare_int.f a0 a1 = some r) :
  Calls Try.prog 90 #[.int .i64 a0, .int .i64 a1] w fun e w' => e = .returned (.int .i64 r) ∧ Drawn0 w w' := by
 have H : ((cmp_isNaN_int.f a0).bind fun aX => ((cmp_isNaN_int.f a1).bind fun az => (if aX = true then (if az = true then (some 0) else (some (-1))) else (if az = true then (some 1) else (if a0 < a1 then (some (-1)) else (if a0 > a1 then (some 1) else (some 0))))))) = some r := h; clear h; obtain ⟨aX, A3, H⟩ := G.bi H; replace H : ((cmp_isNaN_int.f a1).bind fun az => (if aX = true then (if az = true then (some 0) else (some (-1))) else (if az = true then (some 1) else (if a0 < a1 then (some (-1)) else (if a0 > a1 then (some 1) else (some 0)))))) = some r := H; obtain ⟨az, A4, H⟩ := G.bi H; replace H : (if aX = true then (if az = true then (some 0) else (some (-1))) else (if az = true then (some 1) else (if a0 < a1 then (some (-1)) else (if a0 > a1 then (some 1) else (some 0))))) = some r := H
 by_cases c5 : aX = true
 ·subst c5; have H1 : (if az = true then (some 0) else (some (-1))) = some r := by rw [if_pos rfl] at H; exact H
  clear H; have H := H1; clear H1
  by_cases c6 : az = true
  ·subst c6; have H1 : (some 0) = some r := by rw [if_pos rfl] at H; exact H
   clear H; have H := H1; clear H1; obtain rfl := Option.some.inj H
   go_enter Try.func90, Try.ntmps90
   go_wp2_with (first | ((with_reducible refine G.f 107 rfl ?_); refine G.gL 8 Try.func107 #[.int .i64 a0] ?_; (with_reducible refine (cmp_isNaN_int.calls a0 true _ A3.out).mono ?_); rintro e w' ⟨rfl, ⟨nd, rfl⟩⟩; refine ⟨_, rfl, ?_⟩) | ((with_reducible refine G.f 107 rfl ?_); refine G.gL 10 Try.func107 #[.int .i64 a1] ?_; (with_reducible refine (cmp_isNaN_int.calls a1 true _ A4.out).mono ?_); rintro e w' ⟨rfl, ⟨nd, rfl⟩⟩; refine ⟨_, rfl, ?_⟩))
   go_ret
   exact ⟨caal, by repeat (first | exact Drawn0.refl _ | apply Drawn0.step)⟩
  ·replace c6 := Bool.eq_false_iff.mpr c6; subst c6; have H1 : (some (-1)) = some r := by rw [if_neg (show ¬ (false = true) by decide)] at H; exact H
   clear H; have H := H1; clear H1; obtain rfl := Option.some.inj H
   go_enter Try.func90, Try.ntmps90
   go_wp2_with (first | ((with_reducible refine G.f 107 rfl ?_); refine G.gL 8 Try.func107 #[.int .i64 a0] ?_; (with_reducible refine (cmp_isNaN_int.calls a0 true _ A3.out).mono ?_); rintro e w' ⟨rfl, ⟨nd, rfl⟩⟩; refine ⟨_, rfl, ?_⟩) | ((with_reducible refine G.f 107 rfl ?_); refine G.gL 10 Try.func107 #[.int .i64 a1] ?_; (with_reducible refine (cmp_isNaN_int.calls a1 false _ A4.out).mono ?_); rintro e w' ⟨rfl, ⟨nd, rfl⟩⟩; refine ⟨_, rfl, ?_⟩))
   go_ret
   exact ⟨caal, by repeat (first | exact Drawn0.refl _ | apply Drawn0.step)⟩
 ·replace c5 := Bool.eq_false_iff.mpr c5; subst c5; have H1 : (if az = true then (some 1) else (if a0 < a1 then (some (-1)) else (if a0 > a1 then (some 1) else (some 0)))) = some r := by rw [if_neg (show ¬ (false = true) by decide)] at H; exact H
  clear H; have H := H1; clear H1
  by_cases c7 : az = true
  ·subst c7; have H1 : (some 1) = some r := by rw [if_pos rfl] at H; exact H
   clear H; have H := H1; clear H1; obtain rfl := Option.some.inj H
   go_enter Try.func90, Try.ntmps90
   go_wp2_with (first | ((with_reducible refine G.f 107 rfl ?_); refine G.gL 8 Try.func107 #[.int .i64 a0] ?_; (with_reducible refine (cmp_isNaN_int.calls a0 false _ A3.out).mono ?_); rintro e w' ⟨rfl, ⟨nd, rfl⟩⟩; refine ⟨_, rfl, ?_⟩) | ((with_reducible refine G.f 107 rfl ?_); refine G.gL 10 Try.func107 #[.int .i64 a1] ?_; (with_reducible refine (cmp_isNaN_int.calls a1 true _ A4.out).mono ?_); rintro e w' ⟨rfl, ⟨nd, rfl⟩⟩; refine ⟨_, rfl, ?_⟩))
   go_ret
   exact ⟨caal, by repeat (first | exact Drawn0.refl _ | apply Drawn0.step)⟩
  ·replace c7 := Bool.eq_false_iff.mpr c7; subst c7; have H1 : (if a0 < a1 then (some (-1)) else (if a0 > a1 then (some 1) else (some 0))) = some r := by rw [if_neg (show ¬ (false = true) by decide)] at H; exact H
   clear H; have H := H1; clear H1
   by_cases c8 : a0 < a1
   ·rw [if_pos c8] at H; have bB : decide (a0 < a1) = true := decide_eq_true c8; clear c8; obtain rfl := Option.some.inj H
    go_enter Try.func90, Try.ntmps90
    go_wp2_with (first | ((with_reducible refine G.f 107 rfl ?_); refine G.gL 8 Try.func107 #[.int .i64 a0] ?_; (with_reducible refine (cmp_isNaN_int.calls a0 false _ A3.out).mono ?_); rintro e w' ⟨rfl, ⟨nd, rfl⟩⟩; refine ⟨_, rfl, ?_⟩) | ((with_reducible refine G.f 107 rfl ?_); refine G.gL 10 Try.func107 #[.int .i64 a1] ?_; (with_reducible refine (cmp_isNaN_int.calls a1 false _ A4.out).mono ?_); rintro e w' ⟨rfl, ⟨nd, rfl⟩⟩; refine ⟨_, rfl, ?_⟩))
    go_ret
    exact ⟨caal, by repeat (first | exact Drawn0.refl _ | apply Drawn0.step)⟩
   ·rw [if_neg c8] at H; have bB : decide (a0 < a1) = false := decide_eq_false c8; clear c8
    by_cases c9 : a0 > a1
    ·rw [if_pos c9] at H; have bC : decide (a1 < a0) = true := decide_eq_true c9; clear c9; obtain rfl := Option.some.inj H
     go_enter Try.func90, Try.ntmps90
     go_wp2_with (first | ((with_reducible refine G.f 107 rfl ?_); refine G.gL 8 Try.func107 #[.int .i64 a0] ?_; (with_reducible refine (cmp_isNaN_int.calls a0 false _ A3.out).mono ?_); rintro e w' ⟨rfl, ⟨nd, rfl⟩⟩; refine ⟨_, rfl, ?_⟩) | ((with_reducible refine G.f 107 rfl ?_); refine G.gL 10 Try.func107 #[.int .i64 a1] ?_; (with_reducible refine (cmp_isNaN_int.calls a1 false _ A4.out).mono ?_); rintro e w' ⟨rfl, ⟨nd, rfl⟩⟩; refine ⟨_, rfl, ?_⟩))
     go_ret
     exact ⟨caal, by repeat (first | exact Drawn0.refl _ | apply Drawn0.step)⟩
    ·rw [if_neg c9] at H; have bC : decide (a1 < a0) = false := decide_eq_false c9; clear c9; obtain rfl := Option.some.inj H
     go_enter Try.func90, Try.ntmps90
     go_wp2_with (first | ((with_reducible refine G.f 107 rfl ?_); refine G.gL 8 Try.func107 #[.int .i64 a0] ?_; (with_reducible refine (cmp_isNaN_int.calls a0 false _ A3.out).mono ?_); rintro e w' ⟨rfl, ⟨nd, rfl⟩⟩; refine ⟨_, rfl, ?_⟩) | ((with_reducible refine G.f 107 rfl ?_); refine G.gL 10 Try.func107 #[.int .i64 a1] ?_; (with_reducible refine (cmp_isNaN_int.calls a1 false _ A4.out).mono ?_); rintro e w' ⟨rfl, ⟨nd, rfl⟩⟩; refine ⟨_, rfl, ?_⟩))
     go_ret
     exact ⟨caal, by repeat (first | exact Drawn0.refl _ | apply Drawn0.step)⟩

/-! ### impl_tieOrder: function 84 -/
def impl_tieOrder.f (k : Nat) (ae : Int) (aE : Int) (aP : Int) (aJ : Int) : Option (Int) := (cmp_Compare_int.f ae aP).bind fun aF => ((cmp_Compare_int.f aE aJ).bind fun aC => ((cmp_Or_int.f k (([aF, aC] : List Int))).bind fun aG => (some aG)))
theorem impl_tieOrder.mono : ∀ a0 a1 a2 a3 k, LeO (impl_tieOrder.f k a0 a1 a2 a3) (impl_tieOrder.f (k + 1) a0 a1 a2 a3) := by
 intro a0 a1 a2 a3 k; unfold impl_tieOrder.f
 repeat' first | (with_reducible first | exact cmp_Or_int.mono _ _ | exact LeO.refl _ | exact LeO.none _ | refine LeO.ite ?_ ?_ | refine LeO.bind ?_ (fun _ => ?_)) | exact cmp_Or_int.mono _ _ | exact LeO.none _ | refine LeO.ite ?_ ?_ | refine LeO.bind ?_ (fun _ => ?_)
def impl_tieOrder.T1 : Bool × List (List Nat × List Nat) := (true, [([], []), ([0], [0]), ([], []), ([2], [2]), ([1, 3], [1, 3]), ([], []), ([5], [5]), ([], []), ([7], [7]), ([6, 8, 4], [6, 8]), ([4, 9], [4, 9]), ([10, 9], [10]), ([11, 11, 0, 1, 2, 3, 4, 5, 6, 7, 8, 9, 10, 11], [11])])
def impl_tieOrder.B1 : List Nat := [0, 1, 0, 4, 15, 0, 32, 0, 128, 511, 1023, 2047, 4095]
theorem impl_tieOrder.tab1 : rtab .any (opsOf Try.f84 1) = impl_tieOrder.T1 := by kernel_rfl
theorem impl_tieOrder.bits1 : waitsOk impl_tieOrder.T1.2 impl_tieOrder.B1 = true := by kernel_rfl
set_option maxHeartbeats 8000000 in
set_option maxRecDepth 100000 in
theorem impl_tieOrder.calls (k : Nat) (ae : Int) (aE : Int) (aP : Int) (aJ : Int) (r : Int) (w : World) (h : impl_tieOrder.f k ae aE aP aJ = some r) :
  Calls Try.prog 84 #[.agg #[.int .i64 ae, .int .i64 aE], .agg #[.int .i64 aP, .int .i64 aJ]] w fun e w' => e = .returned (.int .i64 r) ∧ Below w.heap.size w w' := by
 have bM := Try.underlying53; have HB := G.m (Below.refl w.heap.size w); have H : ((cmp_Compare_int.f ae aP).bind fun aF => ((cmp_Compare_int.f aE aJ).bind fun aC => ((cmp_Or_int.f k (([aF, aC] : List Int))).bind fun aG => (some aG)))) = some r := h; clear h; obtain ⟨aF, A3, H⟩ := G.bi H; replace H : ((cmp_Compare_int.f aE aJ).bind fun aC => ((cmp_Or_int.f k (([aF, aC] : List Int))).bind fun aG => (some aG))) = some r := H; obtain ⟨aC, A4, H⟩ := G.bi H; replace H : ((cmp_Or_int.f k (([aF, aC] : List Int))).bind fun aG => (some aG)) = some r := H; obtain ⟨bD, a8⟩ : ∃ y_ : List Int, y_ = (([aF, aC] : List Int)) := ⟨_, rfl⟩; replace H : ((cmp_Or_int.f k bD).bind fun aG => (some aG)) = some r := by first | (rw [a8]; with_reducible exact H) | (have bN := (Option.bind_some _ _).symm.trans H; rw [a8]; with_reducible exact bN) | (have bN := (Option.bind_some _ _).symm.trans H; with_reducible exact bN) | with_reducible exact H | (rw [a8]; exact H) | exact H
 have bG := G.m a8; clear a8; obtain ⟨aG, A5, H⟩ := G.bi H; replace H : (some aG) = some r := H; obtain rfl := Option.some.inj H
 go_enter Try.func84, Try.ntmps84; try go_wp2_with (first | ((with_reducible refine G.h 2 rfl ?_); refine G.be 2 #[.int .i64 ae, .int .i64 aE] 53 ?_; intro aI hg w6 hbox hb; have n0 := G.bs HB hb; have n1 := G.m (hbox); have n2 := G.m (caam : w.heap.size ≤ aI); have n3 := G.m (caam : w.heap.size ≤ aI); clear HB; revert n0 n1 n2 n3; intro HB ag dd de; clear hb hbox hg) | ((with_reducible refine G.h 3 rfl ?_); refine G.be 3 #[.int .i64 aP, .int .i64 aJ] 53 ?_; intro aS hg w7 hbox hb; have n0 := G.bb ag hb; have n1 := G.bs HB hb; have n2 := G.m (hbox); have n3 := G.m (caam : w.heap.size ≤ aS); have n4 := G.m (caam : w.heap.size ≤ aS); have n5 := G.m ((by rw [hg]; exact Nat.ne_of_lt (blk_lt (g := aI) (o := .cells #[.int .i64 ae, .int .i64 aE] 53 (0, 0)) (G.cb ag.out)) : aI ≠ aS)); have n6 := G.m ((by rw [hg]; exact Nat.ne_of_gt (blk_lt (g := aI) (o := .cells #[.int .i64 ae, .int .i64 aE] 53 (0, 0)) (G.cb ag.out)) : aS ≠ aI)); clear ag HB; revert n0 n1 n2 n3 n4 n5 n6; intro ag HB ak df dg b1 b2; clear hb hbox hg))
 have n0 := G.m (blk_drew ag.out); have n1 := G.m (blk_drew ak.out); have n2 := G.m (below_drew1 HB.out); clear ag ak HB; revert n0 n1 n2; intro ag ak HB; refine G.st 13 (S := fun w' => w'.cell? ⟨aI, 0, none⟩ = some (.int .i64 ae) ∧ w'.cell? ⟨aI, 1, none⟩ = some (.int .i64 aE) ∧ w'.cell? ⟨aS, 0, none⟩ = some (.int .i64 aP) ∧ w'.cell? ⟨aS, 1, none⟩ = some (.int .i64 aJ)) [] ⟨G.z ag 0, G.z ag 1, G.z ak 0, G.z ak 1⟩ impl_tieOrder.tab1 impl_tieOrder.bits1 (fun hHeld HT_ HW_ => ?_); generalize w7.drew = w8 at ag ak HB hHeld ⊢; refine G.pu 0 5 1 ?_; refine G.pu 2 7 5 ?_; refine G.pu 5 10 37 ?_; refine G.pu 7 12 165 ?_; refine G.ta4 1 6 167 ?_; refine G.ta4 3 8 175 ?_; refine G.ta4 6 11 239 ?_; refine G.ta4 8 13 495 ?_; refine G.on 4 9 511 (fun K hK => ?_); refine G.gs Try.func90 #[.int .i64 ae, .int .i64 aP] ?_; with_reducible refine (cmp_Compare_int.calls ae aP aF _ A3.out).mono ?_
 rintro e w' ⟨rfl, ⟨nd, rfl⟩⟩; refine ⟨_, rfl, ?_⟩; refine hK.out _ _ ⟨G.z ag 0, G.z ag 1, G.z ak 0, G.z ak 1⟩ (fun hHeld => ?_); clear hK K; refine G.no 9 ?_; refine G.on 9 14 1023 (fun K hK => ?_); refine G.gs Try.func90 #[.int .i64 aE, .int .i64 aJ] ?_; with_reducible refine (cmp_Compare_int.calls aE aJ aC _ A4.out).mono ?_
 rintro e w' ⟨rfl, ⟨nd, rfl⟩⟩; refine ⟨_, rfl, ?_⟩; refine hK.out _ _ ⟨G.z ag 0, G.z ag 1, G.z ak 0, G.z ak 1⟩ (fun hHeld => ?_); clear hK K; refine G.no 14 ?_; refine G.on 10 15 2047 (fun K hK => ?_); refine Kd.R_lit_step (Kd.int .i64) _ 3 ?hg (N := 15) ?hd (xs := ([aF, aC] : List Int)) (inner := [.int .i64 aF, .int .i64 aC]) (ok := fun _ => True) (okp := fun _ => True) ?hr ?hp (fun _ hk => hk) trivial (Below.refl _ _) (Nat.le_refl _) (by simp) ?_; (case hd => rfl); (case hg => rfl); (case hr => first | (go_simp; done) | (go_simp; rfl)); (case hp => exact (Reps.one (show Kd.M (Kd.int .i64) _ _ _ aF [.int .i64 aF] from rfl) (Reps.one (show Kd.M (Kd.int .i64) _ _ _ aC [.int .i64 aC] from rfl) (Reps.none _ _)))); intro dy w9 bh hb hg_ hnew_; clear hg_ hnew_; (first | rw [← bG.out] at bh | (simp only [Int.reduceToNat] at bh; rw [← bG.out] at bh)); have n0 := G.m (Kd.R_lower bh (below_size (G.cB HB.out))); have n1 := G.bb ag hb; have n2 := G.bb ak hb; have n3 := G.bs HB hb; clear ag ak HB; revert n0 n1 n2 n3; intro bn ag ak HB; clear hb bh; obtain ⟨ca, cd, bO⟩ := Kd.R_slice bn.out; (first | subst bO | (injection bO with b3 cL b4; have cM := b3.symm; have cN := b4.symm; clear b3 cL b4; subst cM; subst cN)); refine hK.out _ _ ⟨G.z ag 0, G.z ag 1, G.z ak 0, G.z ak 1⟩ (fun hHeld => ?_); clear hK K; refine G.no 15 ?_; refine G.on 11 16 4095 (fun K hK => ?_); refine G.gs Try.func89 #[.slice ca bD.length cd] ?_; with_reducible refine (cmp_Or_int.calls k _ _ bD aG _ ?side1 ?side2 A5.out).mono ?_
 (case side1 => exact G.cC (Kd.R_reads' bn.out).2.2); (case side2 => exact (Kd.R_reads' bn.out).2.1); rintro e w' ⟨rfl, ⟨nd, rfl⟩⟩; refine ⟨_, rfl, ?_⟩; refine hK.out _ _ ⟨G.z ag 0, G.z ag 1, G.z ak 0, G.z ak 1⟩ (fun hHeld => ?_); clear hK K; refine G.no 16 ?_; refine G.pu 12 4 8191 ?_; refine done_ (done_of HT_.out (caao)) ?_; try go_wp2
 go_ret
 exact ⟨caan, G.cB HB.out⟩

/-! ### impl_ascending: function 68 -/
def impl_ascending.l0 : Nat → List (S53) → Int → Option (Bool)
 | 0, _, _ => none
 | k + 1, x0, x3 => if x3 < (x0.length : Int) then (if 0 ≤ (wrap64 (x3 - 1)) then (if (wrap64 (x3 - 1)) < (x0.length : Int) then (if 0 ≤ x3 then ((impl_tieOrder.f k ((rd_T53 x0 (wrap64 (x3 - 1))).f0) ((rd_T53 x0 (wrap64 (x3 - 1))).f1) ((rd_T53 x0 x3).f0) ((rd_T53 x0 x3).f1)).bind fun aK => (if aK ≥ 0 then (some false) else (impl_ascending.l0 k x0 (wrap64 (x3 + 1))))) else (none)) else (none)) else (none)) else (some true)
def impl_ascending.f (k : Nat) (l0 : List (S53)) : Option (Bool) := impl_ascending.l0 k l0 1
theorem impl_ascending.mono_l : ∀ k, (∀ y0 y1, LeO (impl_ascending.l0 k y0 y1) (impl_ascending.l0 (k + 1) y0 y1))
 | 0 => fun _ _ r h => by simp [impl_ascending.l0] at h
 | k + 1 => by
  have aD := impl_ascending.mono_l k
  ·intro y0 y1; unfold impl_ascending.l0
   repeat' first
   | (with_reducible exact aD _ _)
   | (with_reducible exact impl_tieOrder.mono _ _ _ _ _)
   | (with_reducible exact LeO.refl _)
   | (with_reducible exact LeO.none _)
   | (with_reducible refine LeO.ite ?_ ?_)
   | (with_reducible refine LeO.bind ?_ (fun _ => ?_))
   | exact aD _ _
   | exact impl_tieOrder.mono _ _ _ _ _
   | exact LeO.none _
   | refine LeO.ite ?_ ?_
   | refine LeO.bind ?_ (fun _ => ?_)
theorem impl_ascending.mono : ∀ a0 k, LeO (impl_ascending.f k a0) (impl_ascending.f (k + 1) a0) := by
 intro a0 k; have aD := impl_ascending.mono_l k; unfold impl_ascending.f
 repeat' first | (with_reducible first | exact aD _ _ | exact impl_tieOrder.mono _ _ _ _ _ | exact LeO.refl _ | exact LeO.none _ | refine LeO.ite ?_ ?_ | refine LeO.bind ?_ (fun _ => ?_)) | exact aD _ _ | exact impl_tieOrder.mono _ _ _ _ _ | exact LeO.none _ | refine LeO.ite ?_ ?_ | refine LeO.bind ?_ (fun _ => ?_)
def impl_ascending.T4 : Bool × List (List Nat × List Nat) := (true, [([], []), ([], []), ([1], [1]), ([0, 2], [0, 2]), ([3], [3]), ([], []), ([], []), ([5, 6], [5, 6]), ([7], [7]), ([4, 8], [4, 8]), ([9], [9])])
def impl_ascending.B4 : List Nat := [0, 0, 2, 7, 15, 0, 0, 96, 224, 511, 1023]
theorem impl_ascending.tab4 : rtab .any (opsOf Try.f68 4) = impl_ascending.T4 := by kernel_rfl
theorem impl_ascending.bits4 : waitsOk impl_ascending.T4.2 impl_ascending.B4 = true := by kernel_rfl
set_option maxHeartbeats 8000000 in
set_option maxRecDepth 100000 in
theorem impl_ascending.calls (k : Nat) (A0 : Option Addr) (c0 : Nat) (l0 : List (S53)) (r : Bool) (w : World) (bu : Kd.C k53 w A0 l0.length l0) (bv : l0.length ≤ c0) (h : impl_ascending.f k l0 = some r) :
  Calls Try.prog 68 #[.slice A0 l0.length c0] w fun e w' => e = .returned (.bool r) ∧ Below w.heap.size w w' := by
 have bM := Try.underlying53; have bf := G.m bu; have cJ := G.m bv; clear bu bv; have HB := G.m (Below.refl w.heap.size w); have H : (impl_ascending.l0 k l0 1) = some r := h; clear h; have H' := G.m H; clear H
 go_enter Try.func68, Try.ntmps68
 go_wp2
 go_loopg [3] k (fun kq v3 w' => ∃ (ac : Int), v3 = .int .i64 ac ∧ Aside0 (impl_ascending.l0 kq l0 ac = some r) ∧ Aside0 (kq ≤ k) ∧ Aside0 (Below w.heap.size w w'))
 case atStart => exact ⟨(1), (caal), H', ⟨Nat.le_refl _⟩, ⟨G.cB HB.out⟩⟩
 case round =>
  clear H'; obtain ⟨ac, rfl, HA, bw, HB⟩ := hrel; cases gk with
  | zero => exact absurd HA.out (by simp [impl_ascending.l0])
  | succ k1 =>
   have H := HA.out; clear HA; simp only [impl_ascending.l0] at H
   by_cases c2 : ac < (l0.length : Int)
   ·rw [if_pos c2] at H; have bz : decide (ac < (l0.length : Int)) = true := decide_eq_true c2; clear c2; obtain ⟨ah, bd⟩ : ∃ j_ : Int, (wrap64 (ac - 1)) = j_ := ⟨_, rfl⟩; replace H : (if 0 ≤ (ah) then (if (ah) < (l0.length : Int) then (if 0 ≤ ac then ((impl_tieOrder.f k1 ((rd_T53 l0 (ah)).f0) ((rd_T53 l0 (ah)).f1) ((rd_T53 l0 ac).f0) ((rd_T53 l0 ac).f1)).bind fun aK => (if aK ≥ 0 then (some false) else (impl_ascending.l0 k1 l0 (wrap64 (ac + 1))))) else (none)) else (none)) else (none)) = some r := by first | (rw [bd] at H; exact H) | (simp only [bd] at H ⊢; exact H)
    have dh : (IntKind.i64.wrap (ac - 1)) = ah := (i64_w _).trans bd
    by_cases c4 : 0 ≤ (ah)
    ·rw [if_pos c4] at H; have aU : decide (0 ≤ (ah)) = true := decide_eq_true c4; clear c4
     by_cases c5 : (ah) < (l0.length : Int)
     ·rw [if_pos c5] at H; have bL : decide ((ah) < (l0.length : Int)) = true := decide_eq_true c5; clear c5
      by_cases c6 : 0 ≤ ac
      ·rw [if_pos c6] at H; have dz : decide (0 ≤ ac) = true := decide_eq_true c6; clear c6; obtain ⟨aK, A7, H⟩ := G.bi H; replace H : (if aK ≥ 0 then (some false) else (impl_ascending.l0 k1 l0 (wrap64 (ac + 1)))) = some r := H
       by_cases c8 : aK ≥ 0
       ·rw [if_pos c8] at H; have bB : decide (0 ≤ aK) = true := decide_eq_true c8; clear c8; obtain rfl := Option.some.inj H; try go_wp2
        have n0 := G.m (below_drew1 HB.out); clear HB; revert n0; intro HB; have aY : 0 ≤ ((ah) : Int) := of_decide_eq_true (G.asm); have aZ : (ah) < (l0.length : Int) := of_decide_eq_true (G.asm); obtain ⟨ap, bE, av, aw⟩ := at_T53 bf.out (ah) aY aZ; have aL := aw; have aM := av; cases bE; replace av := G.hx HB av; replace aw := G.hx HB aw; replace aY := eq_true aY; replace aZ := eq_true aZ; have a4 : 0 ≤ (ac : Int) := of_decide_eq_true (G.asm); have a5 : ac < (l0.length : Int) := of_decide_eq_true (G.asm); obtain ⟨bo, bF, ax, ay⟩ := at_T53 bf.out ac a4 a5; have aN := ay; have aO := ax; obtain rfl : ap = bo := (by injection bF); replace ax := G.hx HB ax; replace ay := G.hx HB ay; replace a4 := eq_true a4; replace a5 := eq_true a5; refine G.st 11 (S := fun w' => w'.cell? (ap.add (((ah)).toNat * 2)) = some (.int .i64 ((rd_T53 l0 (ah)).f0)) ∧ w'.cell? ⟨(ap.add (((ah)).toNat * 2)).block, (ap.add (((ah)).toNat * 2)).off + 1, none⟩ = some (.int .i64 ((rd_T53 l0 (ah)).f1)) ∧ w'.cell? (ap.add ((ac).toNat * 2)) = some (.int .i64 ((rd_T53 l0 ac).f0)) ∧ w'.cell? ⟨(ap.add ((ac).toNat * 2)).block, (ap.add ((ac).toNat * 2)).off + 1, none⟩ = some (.int .i64 ((rd_T53 l0 ac).f1))) [] ⟨(G.hx HB aM), (G.hx HB aL), (G.hx HB aO), (G.hx HB aN)⟩ impl_ascending.tab4 impl_ascending.bits4 (fun hHeld HT_ HW_ => ?_); generalize wr.drew = w9 at HB av aw ax ay hHeld ⊢; refine G.pu 0 10 1 ?_; refine G.pu 1 11 3 ?_; refine G.pu 2 12 7 ?_; refine G.pu 3 13 15 ?_; refine G.pu 5 15 47 ?_; refine G.pu 6 16 111 ?_; refine G.pu 7 17 239 ?_; refine G.ta4 4 14 255 ?_; refine G.ta4 8 18 511 ?_; refine G.on 9 19 1023 (fun K hK => ?_); refine goes_ Try.func84 (caao) rfl #[.agg #[.int .i64 ((rd_T53 l0 (ah)).f0), .int .i64 ((rd_T53 l0 (ah)).f1)], .agg #[.int .i64 ((rd_T53 l0 ac).f0), .int .i64 ((rd_T53 l0 ac).f1)]] (by rfl) rfl rfl (caar) ?_; with_reducible refine (impl_tieOrder.calls k1 ((rd_T53 l0 (ah)).f0) ((rd_T53 l0 (ah)).f1) ((rd_T53 l0 ac).f0) ((rd_T53 l0 ac).f1) aK _ A7.out).mono ?_
        rintro e dB ⟨rfl, hb⟩; refine ⟨_, rfl, ?_⟩; have n0 := G.bs HB hb; clear HB; revert n0; intro HB; (try clear hb); refine hK.out _ _ ⟨(G.hx HB aM), (G.hx HB aL), (G.hx HB aO), (G.hx HB aN)⟩ (fun hHeld => ?_); clear hK K; refine G.no 19 ?_; refine G.pu 10 20 2047 ?_; refine done_ (done_of HT_.out (caao)) ?_; try go_wp2
        go_ret
        exact ⟨by first | rfl | (simp [errW_none, errW_some] <;> rfl) | (simp only [← bd]; first | rfl | (simp [errW_none, errW_some] <;> rfl)) | (simp [*, errW_none, errW_some] <;> rfl), G.cB HB.out⟩
       ·rw [if_neg c8] at H; have bB : decide (0 ≤ aK) = false := decide_eq_false c8; clear c8; have H' := G.m H; clear H; try go_wp2
        have n0 := G.m (below_drew1 HB.out); clear HB; revert n0; intro HB; have aY : 0 ≤ ((ah) : Int) := of_decide_eq_true (G.asm); have aZ : (ah) < (l0.length : Int) := of_decide_eq_true (G.asm); obtain ⟨ap, bE, av, aw⟩ := at_T53 bf.out (ah) aY aZ; have aL := aw; have aM := av; cases bE; replace av := G.hx HB av; replace aw := G.hx HB aw; replace aY := eq_true aY; replace aZ := eq_true aZ; have a4 : 0 ≤ (ac : Int) := of_decide_eq_true (G.asm); have a5 : ac < (l0.length : Int) := of_decide_eq_true (G.asm); obtain ⟨bo, bF, ax, ay⟩ := at_T53 bf.out ac a4 a5; have aN := ay; have aO := ax; obtain rfl : ap = bo := (by injection bF); replace ax := G.hx HB ax; replace ay := G.hx HB ay; replace a4 := eq_true a4; replace a5 := eq_true a5; refine G.st 11 (S := fun w' => w'.cell? (ap.add (((ah)).toNat * 2)) = some (.int .i64 ((rd_T53 l0 (ah)).f0)) ∧ w'.cell? ⟨(ap.add (((ah)).toNat * 2)).block, (ap.add (((ah)).toNat * 2)).off + 1, none⟩ = some (.int .i64 ((rd_T53 l0 (ah)).f1)) ∧ w'.cell? (ap.add ((ac).toNat * 2)) = some (.int .i64 ((rd_T53 l0 ac).f0)) ∧ w'.cell? ⟨(ap.add ((ac).toNat * 2)).block, (ap.add ((ac).toNat * 2)).off + 1, none⟩ = some (.int .i64 ((rd_T53 l0 ac).f1))) [] ⟨(G.hx HB aM), (G.hx HB aL), (G.hx HB aO), (G.hx HB aN)⟩ impl_ascending.tab4 impl_ascending.bits4 (fun hHeld HT_ HW_ => ?_); generalize wr.drew = dC at HB av aw ax ay hHeld ⊢; refine G.pu 0 10 1 ?_; refine G.pu 1 11 3 ?_; refine G.pu 2 12 7 ?_; refine G.pu 3 13 15 ?_; refine G.pu 5 15 47 ?_; refine G.pu 6 16 111 ?_; refine G.pu 7 17 239 ?_; refine G.ta4 4 14 255 ?_; refine G.ta4 8 18 511 ?_; refine G.on 9 19 1023 (fun K hK => ?_); refine goes_ Try.func84 (caao) rfl #[.agg #[.int .i64 ((rd_T53 l0 (ah)).f0), .int .i64 ((rd_T53 l0 (ah)).f1)], .agg #[.int .i64 ((rd_T53 l0 ac).f0), .int .i64 ((rd_T53 l0 ac).f1)]] (by rfl) rfl rfl (caar) ?_; with_reducible refine (impl_tieOrder.calls k1 ((rd_T53 l0 (ah)).f0) ((rd_T53 l0 (ah)).f1) ((rd_T53 l0 ac).f0) ((rd_T53 l0 ac).f1) aK _ A7.out).mono ?_
        rintro e dD ⟨rfl, hb⟩; refine ⟨_, rfl, ?_⟩; have n0 := G.bs HB hb; clear HB; revert n0; intro HB; (try clear hb); refine hK.out _ _ ⟨(G.hx HB aM), (G.hx HB aL), (G.hx HB aO), (G.hx HB aN)⟩ (fun hHeld => ?_); clear hK K; refine G.no 19 ?_; refine G.pu 10 20 2047 ?_; refine done_ (done_of HT_.out (caao)) ?_; try go_wp2
        go_roundg k1
        case measure => have := bw.out; omega
        case rel => exact ⟨(wrap64 (ac + 1)), (caal), H', ⟨by have := bw.out; omega⟩, ⟨G.cB HB.out⟩⟩
      ·rw [if_neg c6] at H; exact absurd H (by simp)
     ·rw [if_neg c5] at H; exact absurd H (by simp)
    ·rw [if_neg c4] at H; exact absurd H (by simp)
   ·rw [if_neg c2] at H; have bz : decide (ac < (l0.length : Int)) = false := decide_eq_false c2; clear c2; obtain rfl := Option.some.inj H
    go_wp2
    go_ret
    exact ⟨caan, G.cB HB.out⟩

/-! ### impl_NetOk: function 45 -/
mutual
def impl_NetOk.j0 : Nat → Bool → Int → List (S53) → Option (Bool)
 | 0, _, _, _ => none
 | k + 1, cO, aT, aH => if cO = true then (some false) else (impl_NetOk.l0 k aH (aH.length : Int) 0 aT aH)
def impl_NetOk.l0 : Nat → List (S53) → Int → Int → Int → List (S53) → Option (Bool)
 | 0, _, _, _, _, _ => none
 | k + 1, bj, b5, ba, aT, aH => if ba < b5 then (if 0 ≤ ba then (if ba < (bj.length : Int) then (if ((rd_T53 bj ba).f0) < 0 then (some false) else (if ((rd_T53 bj ba).f0) ≥ ((rd_T53 bj ba).f1) then (some false) else (if ((rd_T53 bj ba).f1) ≥ aT then (some false) else (impl_NetOk.l0 k bj b5 (wrap64 (ba + 1)) aT aH)))) else (none)) else (none)) else ((impl_ascending.f k aH).bind fun bp => (some bp))
end
def impl_NetOk.f (k : Nat) (ae : Int) (aa : List (S53)) : Option (Bool) := if ae < 0 then (impl_NetOk.j0 k true ae aa) else (impl_NetOk.j0 k (decide (ae > 8)) ae aa)
theorem impl_NetOk.mono_l : ∀ k, (∀ y0 y1 y2, LeO (impl_NetOk.j0 k y0 y1 y2) (impl_NetOk.j0 (k + 1) y0 y1 y2)) ∧ (∀ y0 y1 y2 y3 y4, LeO (impl_NetOk.l0 k y0 y1 y2 y3 y4) (impl_NetOk.l0 (k + 1) y0 y1 y2 y3 y4))
 | 0 => ⟨fun _ _ _ r h => by simp [impl_NetOk.j0] at h, fun _ _ _ _ _ r h => by simp [impl_NetOk.l0] at h⟩
 | k + 1 => by
  obtain ⟨aD, bx⟩ := impl_NetOk.mono_l k; refine ⟨?_, ?_⟩ <;> intros
  all_goals first | unfold impl_NetOk.j0 | unfold impl_NetOk.l0
  repeat' first | (with_reducible first | exact aD _ _ _ | exact bx _ _ _ _ _ | exact impl_ascending.mono _ _ | exact LeO.refl _ | exact LeO.none _ | refine LeO.ite ?_ ?_ | refine LeO.bind ?_ (fun _ => ?_)) | exact aD _ _ _ | exact bx _ _ _ _ _ | exact impl_ascending.mono _ _ | exact LeO.none _ | refine LeO.ite ?_ ?_ | refine LeO.bind ?_ (fun _ => ?_)
theorem impl_NetOk.mono : ∀ a0 a1 k, LeO (impl_NetOk.f k a0 a1) (impl_NetOk.f (k + 1) a0 a1) := by
 intro a0 a1 k; obtain ⟨aD, bx⟩ := impl_NetOk.mono_l k; unfold impl_NetOk.f
 repeat' first | (with_reducible first | exact aD _ _ _ | exact bx _ _ _ _ _ | exact impl_ascending.mono _ _ | exact LeO.refl _ | exact LeO.none _ | refine LeO.ite ?_ ?_ | refine LeO.bind ?_ (fun _ => ?_)) | exact aD _ _ _ | exact bx _ _ _ _ _ | exact impl_ascending.mono _ _ | exact LeO.none _ | refine LeO.ite ?_ ?_ | refine LeO.bind ?_ (fun _ => ?_)
set_option maxHeartbeats 8000000 in
set_option maxRecDepth 100000 in
theorem impl_NetOk.calls (k : Nat) (ae : Int) (a_ : Option Addr) (aR : Nat) (aa : List (S53)) (r : Bool) (w : World) (bH : Kd.C k53 w a_ aa.length aa) (bI : aa.length ≤ aR) (h : impl_NetOk.f k ae aa = some r) :
  Calls Try.prog 45 #[.agg #[.int .i64 ae, .slice a_ aa.length aR]] w fun e w' => e = .returned (.bool r) ∧ Below w.heap.size w w' := by
 have dA := Try.underlying30; have bM := Try.underlying53; have a9 := G.m bH; have bW := G.m bI; clear bH bI; have HB := G.m (Below.refl w.heap.size w); have H : (if ae < 0 then (impl_NetOk.j0 k true ae aa) else (impl_NetOk.j0 k (decide (ae > 8)) ae aa)) = some r := h; clear h; have bP := G.m H; clear H
 go_enter Try.func45, Try.ntmps45
 go_upto_region 1 with (first | ((with_reducible refine G.h 1 rfl ?_); refine G.be 1 #[.int .i64 ae, .slice a_ aa.length aR] 30 ?_; intro aq hg w3 hbox hb; have n0 := G.bs HB hb; have n1 := G.m (hbox); have n2 := G.m (caam : w.heap.size ≤ aq); have n3 := G.m (caam : w.heap.size ≤ aq); clear HB; revert n0 n1 n2 n3; intro HB af di dj; clear hb hbox hg))
 (try simp only [Act.put, List.setIfInBounds_toArray, List.set_cons_zero, List.set_cons_succ])
 go_cut [12] (fun cP wc => ∃ (kq : Nat) (bc : Bool), cP = .bool bc ∧ Aside0 (impl_NetOk.j0 kq bc ae aa = some r) ∧ Aside0 (kq ≤ k) ∧ Aside0 (wc.heap[aq]? = some (.cells #[.int .i64 ae, (.slice a_ aa.length aR)] 30 (0, 0))) ∧ Aside0 (Below w.heap.size w wc))
 case first =>
  have H := bP.out; clear bP
  by_cases c4 : ae < 0
  ·rw [if_pos c4] at H; have aU : decide (ae < 0) = true := decide_eq_true c4; clear c4; (first | rw [aU] | (simp only [i64_w, i32_w]; rw [aU]) | skip); have H' := G.m H; clear H; have ⟨cQ, cS, cT, cU⟩ := G.d2 (w := w3) af
   go_wp2
   go_meet
   case rel => exact ⟨_, (true), (caal), H', ⟨by first | omega | exact Nat.le_refl _⟩, ⟨G.cb af.out⟩, ⟨G.cB HB.out⟩⟩
  ·rw [if_neg c4] at H; have aU : decide (ae < 0) = false := decide_eq_false c4; clear c4; (first | rw [aU] | (simp only [i64_w, i32_w]; rw [aU]) | skip); have H' := G.m H; clear H; have ⟨cW, cX, cY, cZ⟩ := G.d2 (w := w3) af
   go_wp2
   go_meet
   case rel => exact ⟨_, (decide (ae > 8)), (caal), H', ⟨by first | omega | exact Nat.le_refl _⟩, ⟨G.cb af.out⟩, ⟨G.cB HB.out⟩⟩
 case rest =>
  clear bP; obtain ⟨kq, bc, rfl, HA, b6, af, HB⟩ := hcut; cases kq with
  | zero => exact absurd HA.out (by simp [impl_NetOk.j0])
  | succ bQ =>
   have H := HA.out; clear HA; simp only [impl_NetOk.j0] at H
   by_cases c7 : bc = true
   ·subst c7; have H1 : (some false) = some r := by rw [if_pos rfl] at H; exact H
    clear H; have H := H1; clear H1; obtain rfl := Option.some.inj H
    go_wp2
    go_ret
    exact ⟨caan, G.cB HB.out⟩
   ·replace c7 := Bool.eq_false_iff.mpr c7; subst c7; have H1 : (impl_NetOk.l0 bQ aa (aa.length : Int) 0 ae aa) = some r := by rw [if_neg (show ¬ (false = true) by decide)] at H; exact H
    clear H; have H := H1; clear H1; have H' := G.m H; clear H; have ⟨bR, bS, bT, bU⟩ := G.d2 (w := wc) af
    go_wp2
    go_loopg [16] bQ (fun kq c_ w' => ∃ (ab : Int), c_ = .int .i64 ab ∧ Aside0 (impl_NetOk.l0 kq aa (aa.length : Int) ab ae aa = some r) ∧ Aside0 (kq ≤ bQ) ∧ Aside0 (w'.heap[aq]? = some (.cells #[.int .i64 ae, (.slice a_ aa.length aR)] 30 (0, 0))) ∧ Aside0 (Below w.heap.size w w'))
    case atStart => exact ⟨(0), (caal), H', ⟨Nat.le_refl _⟩, ⟨G.cb af.out⟩, ⟨G.cB HB.out⟩⟩
    case round =>
     clear H'; (try clear c7 bR bS bT bU); obtain ⟨ab, rfl, HA, b7, af, HB⟩ := hrel; cases gk with
     | zero => exact absurd HA.out (by simp [impl_NetOk.l0])
     | succ k2 =>
      have H := HA.out; clear HA; simp only [impl_NetOk.l0] at H
      by_cases c9 : ab < (aa.length : Int)
      ·rw [if_pos c9] at H; have bC : decide (ab < (aa.length : Int)) = true := decide_eq_true c9; clear c9
       by_cases c10 : 0 ≤ ab
       ·rw [if_pos c10] at H; have dk : decide (0 ≤ ab) = true := decide_eq_true c10; clear c10
        by_cases bJ : ab < (aa.length : Int)
        ·rw [if_pos bJ] at H; have dl : decide (ab < (aa.length : Int)) = true := decide_eq_true bJ; clear bJ
         by_cases bk : ((rd_T53 aa ab).f0) < 0
         ·rw [if_pos bk] at H; have bX : decide (((rd_T53 aa ab).f0) < 0) = true := decide_eq_true bk; clear bk; obtain rfl := Option.some.inj H; have aA : 0 ≤ (ab : Int) := of_decide_eq_true (G.asm); have aB : ab < (aa.length : Int) := of_decide_eq_true (G.asm); obtain ⟨a7, a6, am, ao⟩ := at_T53 a9.out ab aA aB; cases a6; replace am := G.hx HB am; replace ao := G.hx HB ao; replace aA := eq_true aA; replace aB := eq_true aB
          go_wp2_with (first | ((with_reducible refine G.h 4 rfl ?_); refine G.be 4 #[.int .i64 0, .int .i64 0] 53 ?_; intro ai hg da hbox hb; have n0 := G.bb af hb; have n1 := G.bs HB hb; have n2 := G.m (hbox); have n3 := G.m (caam : w.heap.size ≤ ai); have n4 := G.m (caam : w.heap.size ≤ ai); have n5 := G.m (caap : aq ≠ ai); have n6 := G.m (caaq : ai ≠ aq); clear af HB; revert n0 n1 n2 n3 n4 n5 n6; intro af HB aQ bq br al au; clear hb hbox hg; have dn := au.out; have dp := al.out; have ⟨ce, cf, cg, ch⟩ := G.d2 (w := da) aQ))
          go_ret
          exact ⟨caan, G.cB HB.out⟩
         ·rw [if_neg bk] at H; have bX : decide (((rd_T53 aa ab).f0) < 0) = false := decide_eq_false bk; clear bk
          by_cases bl : ((rd_T53 aa ab).f0) ≥ ((rd_T53 aa ab).f1)
          ·rw [if_pos bl] at H; have bY : decide (((rd_T53 aa ab).f1) ≤ ((rd_T53 aa ab).f0)) = true := decide_eq_true bl; clear bl; obtain rfl := Option.some.inj H; have aA : 0 ≤ (ab : Int) := of_decide_eq_true (G.asm); have aB : ab < (aa.length : Int) := of_decide_eq_true (G.asm); obtain ⟨a7, a6, am, ao⟩ := at_T53 a9.out ab aA aB; cases a6; replace am := G.hx HB am; replace ao := G.hx HB ao; replace aA := eq_true aA; replace aB := eq_true aB
           go_wp2_with (first | ((with_reducible refine G.h 4 rfl ?_); refine G.be 4 #[.int .i64 0, .int .i64 0] 53 ?_; intro ai hg db hbox hb; have n0 := G.bb af hb; have n1 := G.bs HB hb; have n2 := G.m (hbox); have n3 := G.m (caam : w.heap.size ≤ ai); have n4 := G.m (caam : w.heap.size ≤ ai); have n5 := G.m (caap : aq ≠ ai); have n6 := G.m (caaq : ai ≠ aq); clear af HB; revert n0 n1 n2 n3 n4 n5 n6; intro af HB aQ bq br al au; clear hb hbox hg; have dq := au.out; have dr := al.out; have ⟨ci, cj, ck, cl⟩ := G.d2 (w := db) aQ))
           go_ret
           exact ⟨caan, G.cB HB.out⟩
          ·rw [if_neg bl] at H; have bY : decide (((rd_T53 aa ab).f1) ≤ ((rd_T53 aa ab).f0)) = false := decide_eq_false bl; clear bl
           by_cases bm : ((rd_T53 aa ab).f1) ≥ ae
           ·rw [if_pos bm] at H; have bZ : decide (ae ≤ ((rd_T53 aa ab).f1)) = true := decide_eq_true bm; clear bm; obtain rfl := Option.some.inj H; have aA : 0 ≤ (ab : Int) := of_decide_eq_true (G.asm); have aB : ab < (aa.length : Int) := of_decide_eq_true (G.asm); obtain ⟨a7, a6, am, ao⟩ := at_T53 a9.out ab aA aB; cases a6; replace am := G.hx HB am; replace ao := G.hx HB ao; replace aA := eq_true aA; replace aB := eq_true aB
            go_wp2_with (first | ((with_reducible refine G.h 4 rfl ?_); refine G.be 4 #[.int .i64 0, .int .i64 0] 53 ?_; intro ai hg b8 hbox hb; have n0 := G.bb af hb; have n1 := G.bs HB hb; have n2 := G.m (hbox); have n3 := G.m (caam : w.heap.size ≤ ai); have n4 := G.m (caam : w.heap.size ≤ ai); have n5 := G.m (caap : aq ≠ ai); have n6 := G.m (caaq : ai ≠ aq); clear af HB; revert n0 n1 n2 n3 n4 n5 n6; intro af HB aQ bq br al au; clear hb hbox hg; have dt := au.out; have du := al.out; have ⟨cm, cn, co, cp⟩ := G.d2 (w := b8) aQ; have ⟨cq, cr, ct, cu⟩ := G.d2 (w := b8) af))
            go_ret
            exact ⟨caan, G.cB HB.out⟩
           ·rw [if_neg bm] at H; have bZ : decide (ae ≤ ((rd_T53 aa ab).f1)) = false := decide_eq_false bm; clear bm; have H' := G.m H; clear H; have aA : 0 ≤ (ab : Int) := of_decide_eq_true (G.asm); have aB : ab < (aa.length : Int) := of_decide_eq_true (G.asm); obtain ⟨a7, a6, am, ao⟩ := at_T53 a9.out ab aA aB; cases a6; replace am := G.hx HB am; replace ao := G.hx HB ao; replace aA := eq_true aA; replace aB := eq_true aB
            go_wp2_with (first | ((with_reducible refine G.h 4 rfl ?_); refine G.be 4 #[.int .i64 0, .int .i64 0] 53 ?_; intro ai hg b9 hbox hb; have n0 := G.bb af hb; have n1 := G.bs HB hb; have n2 := G.m (hbox); have n3 := G.m (caam : w.heap.size ≤ ai); have n4 := G.m (caam : w.heap.size ≤ ai); have n5 := G.m (caap : aq ≠ ai); have n6 := G.m (caaq : ai ≠ aq); clear af HB; revert n0 n1 n2 n3 n4 n5 n6; intro af HB aQ bq br al au; clear hb hbox hg; have dv := au.out; have dw := al.out; have ⟨cv, cw, cx, cy⟩ := G.d2 (w := b9) aQ; have ⟨cz, cA, cD, cE⟩ := G.d2 (w := b9) af))
            go_roundg k2
            case measure => have := b6.out; have := b7.out; omega
            case rel => exact ⟨(wrap64 (ab + 1)), (caal), H', ⟨by have := b6.out; have := b7.out; omega⟩, ⟨by (with_reducible repeat (first | refine blk_drewN ?_ _ | refine blk_drew ?_ | refine blk_alloc ?_ _)); refine blk_far ?_ al.out _; (with_reducible repeat (first | refine blk_drewN ?_ _ | refine blk_drew ?_ | refine blk_alloc ?_ _)); refine blk_far ?_ al.out _; (with_reducible repeat (first | refine blk_drewN ?_ _ | refine blk_drew ?_ | refine blk_alloc ?_ _)); exact af.out⟩, ⟨G.cB HB.out⟩⟩
        ·rw [if_neg bJ] at H; exact absurd H (by simp)
       ·rw [if_neg c10] at H; exact absurd H (by simp)
      ·rw [if_neg c9] at H; have bC : decide (ab < (aa.length : Int)) = false := decide_eq_false c9; clear c9; obtain ⟨bp, dc, H⟩ := G.bi H; replace H : (some bp) = some r := H; obtain rfl := Option.some.inj H; have ⟨cF, cG, cH, cI⟩ := G.d2 (w := wr) af
       go_wp2_with (first | ((with_reducible refine G.f 68 rfl ?_); refine G.gL 40 Try.func68 #[.slice a_ aa.length aR] ?_; (with_reducible refine (impl_ascending.calls k2 _ _ aa bp _ ?side1 ?side2 dc.out).mono ?_); (case side1 => exact G.cC (Kd.C_below a9.out HB.out)); (case side2 => exact bW.out); rintro e dE ⟨rfl, hb⟩; refine ⟨_, rfl, ?_⟩; have n0 := G.bb af hb; have n1 := G.bs HB hb; clear af HB; revert n0 n1; intro af HB; (try clear hb)))
       go_ret
       exact ⟨caan, G.cB HB.out⟩

end Go.Proofs.Ytddadihobjinhaa.P
