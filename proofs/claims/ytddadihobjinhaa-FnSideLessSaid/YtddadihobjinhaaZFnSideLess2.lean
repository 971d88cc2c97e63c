/- The proof's parts ahead of the row: of no condition of their own. -/
import Derived.Test.YtddadihobjinhaaZFnSideLess1
import Derived.Sort.Grow
import Derived.Lib.SliceRun
set_option linter.unusedVariables false
set_option linter.unusedSimpArgs false
namespace Go.Proofs.Ytddadihobjinhaa.P
open Go.RowKit Go.Proofs.YtddadihobjinhaaW.PrintWords Go.Proofs.YtddadihobjinhaaW.PrintLast Go.Proofs.YtddadihobjinhaaW.PrintMore
attribute [local go_sem] max2_int min2_int max_two min_two max_three min_three max_four min_four   -- for this text's walks alone
theorem caar {p : Prop} (h : p := by (try simp only [List.map_toArray, List.map_cons, List.map_nil]); first | done | (simp only [bd]; rfl) | rfl | (simp only [List.length_drop, List.length_take]; rfl)) : p := h
theorem caap {p : Prop} (h : p := by rw [hg]; exact Nat.ne_of_lt (blk_lt (g := aq) (o := .cells #[.int .i64 ae, .slice (some a7) aa.length aR] 30 (0, 0)) (G.cb af.out))) : p := h
theorem caaq {p : Prop} (h : p := by rw [hg]; exact Nat.ne_of_gt (blk_lt (g := aq) (o := .cells #[.int .i64 ae, .slice (some a7) aa.length aR] 30 (0, 0)) (G.cb af.out))) : p := h
theorem caan {p : Prop} (h : p := by first | rfl | (simp [errW_none, errW_some] <;> rfl) | (simp [*, errW_none, errW_some] <;> rfl)) : p := h
theorem caal {p : Prop} (h : p := by first | rfl | (simp; done) | (simp [*]; done)) : p := h
theorem caam {p : Prop} (h : p := by rw [hg]; exact (below_size (G.cB HB.out))) : p := h
theorem caao {p : Prop} (h : p := by kernel_rfl) : p := h
def cmp_Or_int.l0 : Nat → Int → List Int → Int → Int → Option (Int)
 | 0, _, _, _, _ => none
 | k + 1, x3, x6, x7, x8 => if x8 < x7 then (if 0 ≤ x8 then (if x8 < (x6.length : Int) then (if (rd x6 x8) = x3 then (cmp_Or_int.l0 k x3 x6 x7 (wrap64 (x8 + 1))) else (some (rd x6 x8))) else (none)) else (none)) else (some x3)
def cmp_Or_int.f (k : Nat) (l0 : List Int) : Option (Int) := cmp_Or_int.l0 k 0 l0 (l0.length : Int) 0
set_option maxHeartbeats 8000000 in
set_option maxRecDepth 100000 in
theorem cmp_Or_int.calls (k : Nat) (A0 : Option Addr) (c0 : Nat) (l0 : List Int) (r : Int) (w : World) (bu : Kd.C (Kd.int .i64) w A0 l0.length l0) (bv : l0.length ≤ c0) (h : cmp_Or_int.f k l0 = some r) :
  Calls Try.prog 89 #[.slice A0 l0.length c0] w fun e w' => e = .returned (.int .i64 r) ∧ Drawn0 w w' := by
 have bf := G.m bu; have cJ := G.m bv; clear bu bv; have H : (cmp_Or_int.l0 k 0 l0 (l0.length : Int) 0) = some r := h; clear h; have H' := G.m H; clear H
 go_enter Try.func89, Try.ntmps89
 go_wp2
 go_loopg [8] k (fun kq v8 w' => ∃ (aj : Int), v8 = .int .i64 aj ∧ Aside0 (cmp_Or_int.l0 kq 0 l0 (l0.length : Int) aj = some r) ∧ Aside0 (kq ≤ k) ∧ Drawn0 w w')
 case atStart => exact ⟨(0), (caal), H', ⟨Nat.le_refl _⟩, by repeat (first | exact Drawn0.refl _ | apply Drawn0.step)⟩
 case round =>
  clear H'; obtain ⟨aj, rfl, HA, bw, ⟨m1, rfl⟩⟩ := hrel; cases gk with
  | zero => exact absurd HA.out (by simp [cmp_Or_int.l0])
  | succ k1 =>
   have H := HA.out; clear HA; simp only [cmp_Or_int.l0] at H
   by_cases c2 : aj < (l0.length : Int)
   ·rw [if_pos c2] at H; have bz : decide (aj < (l0.length : Int)) = true := decide_eq_true c2; clear c2
    by_cases c3 : 0 ≤ aj
    ·rw [if_pos c3] at H; have dx : decide (0 ≤ aj) = true := decide_eq_true c3; clear c3
     by_cases c4 : aj < (l0.length : Int)
     ·rw [if_pos c4] at H; have aU : decide (aj < (l0.length : Int)) = true := decide_eq_true c4; clear c4
      by_cases c5 : (rd l0 aj) = 0
      ·rw [if_pos c5] at H; have bL : ((rd l0 aj) == 0) = true := beq_iff_eq.mpr c5; have b_ : ((rd l0 aj) != 0) = false := bne_eq_false_iff_eq.mpr c5; clear c5; have H' := G.m H; clear H; have aV : 0 ≤ (aj : Int) := of_decide_eq_true (G.asm); have aW : aj < (l0.length : Int) := of_decide_eq_true (G.asm); obtain ⟨bV, bA, bK⟩ := Kd.at_int bf.out aj aV aW; cases bA; replace aV := eq_true aV; replace aW := eq_true aW
       go_wp2
       go_roundg k1
       case measure => have := bw.out; omega
       case rel => exact ⟨(wrap64 (aj + 1)), (caal), H', ⟨by have := bw.out; omega⟩, by repeat (first | exact Drawn0.refl _ | apply Drawn0.step)⟩
      ·rw [if_neg c5] at H; have bL : ((rd l0 aj) == 0) = false := beq_eq_false_iff_ne.mpr c5; have b_ : ((rd l0 aj) != 0) = true := bne_iff_ne.mpr c5; obtain rfl := Option.some.inj H; have aV : 0 ≤ (aj : Int) := of_decide_eq_true (G.asm); have aW : aj < (l0.length : Int) := of_decide_eq_true (G.asm); obtain ⟨bV, bA, bK⟩ := Kd.at_int bf.out aj aV aW; cases bA; replace aV := eq_true aV; replace aW := eq_true aW
       go_wp2
       go_ret
       exact ⟨caal, by repeat (first | exact Drawn0.refl _ | apply Drawn0.step)⟩
     ·rw [if_neg c4] at H; exact absurd H (by simp)
    ·rw [if_neg c3] at H; exact absurd H (by simp)
   ·rw [if_neg c2] at H; have bz : decide (aj < (l0.length : Int)) = false := decide_eq_false c2; clear c2; obtain rfl := Option.some.inj H
    go_wp2
    go_ret
    exact ⟨caal, by repeat (first | exact Drawn0.refl _ | apply Drawn0.step)⟩
def cmp_isNaN_int.f (a0 : Int) : Option (Bool) := some (a0 != a0)
set_option maxHeartbeats 8000000 in
set_option maxRecDepth 100000 in
theorem cmp_isNaN_int.calls (a0 : Int) (r : Bool) (w : World) (h : cmp_isNaN_int.f a0 = some r) :
  Calls Try.prog 107 #[.int .i64 a0] w fun e w' => e = .returned (.bool r) ∧ Drawn0 w w' := by
 have H : (some (a0 != a0)) = some r := h; clear h; obtain rfl := Option.some.inj H
 go_enter Try.func107, Try.ntmps107
 go_wp2
 go_ret
 exact ⟨caal, by repeat (first | exact Drawn0.refl _ | apply Drawn0.step)⟩
def cmp_Compare_int.f (a0 : Int) (a1 : Int) : Option (Int) := (cmp_isNaN_int.f a0).bind fun aX => ((cmp_isNaN_int.f a1).bind fun az => (if aX = true then (if az = true then (some 0) else (some (-1))) else (if az = true then (some 1) else (if a0 < a1 then (some (-1)) else (if a0 > a1 then (some 1) else (some 0))))))
set_option maxHeartbeats 8000000 in
set_option maxRecDepth 100000 in
theorem cmp_Compare_int.calls (a0 : Int) (a1 : Int) (r : Int) (w : World) (h : cmp_Compare_int.f a0 a1 = some r) :
  Calls Try.prog 90 #[.int .i64 a0, .int .i64 a1] w fun e w' => e = .returned (.int .i64 r) ∧ Drawn0 w w' := by
 have H : ((cmp_isNaN_int.f a0).bind fun aX => ((cmp_isNaN_int.f a1).bind fun az => (if aX = true then (if az = true then (some 0) else (some (-1))) else (if az = true then (some 1) else (if a0 < a1 then (some (-1)) else (if a0 > a1 then (some 1) else (some 0))))))) = some r := h; clear h; obtain ⟨aX, A3, H⟩ := G.bi H; replace H : ((cmp_isNaN_int.f a1).bind fun az => (if aX = true then (if az = true then (some 0) else (some (-1))) else (if az = true then (some 1) else (if a0 < a1 then (some (-1)) else (if a0 > a1 then (some 1) else (some 0)))))) = some r := H; obtain ⟨az, A4, H⟩ := G.bi H; replace H : (if aX = true then (if az = true then (some 0) else (some (-1))) else (if az = true then (some 1) else (if a0 < a1 then (some (-1)) else (if a0 > a1 then (some 1) else (some 0))))) = some r := H
 by_cases c5 : aX = true
 ·subst c5; have H1 : (if az = true then (some 0) else (some (-1))) = some r := by rw [if_pos rfl] at H; exact H
  clear H; have H := H1; clear H1
  by_cases c6 : az = true
  ·subst c6; have H1 : (some 0) = some r := by rw [if_pos rfl] at H; exact H
   clear H; have H := H1; clear H1; obtain rfl := Option.some.inj H
   go_enter Try.func90, Try.ntmps90
   go_wp2_with (first | ((with_reducible refine G.f 107 rfl ?_); refine G.gL 8 Try.func107 #[.int .i64 a0] ?_; (with_reducible refine (cmp_isNaN_int.calls a0 true _ A3.out).mono ?_); rintro e w' ⟨rfl, ⟨nd, rfl⟩⟩; refine ⟨_, rfl, ?_⟩) | ((with_reducible refine G.f 107 rfl ?_); refine G.gL 10 Try.func107 #[.int .i64 a1] ?_; (with_reducible refine (cmp_isNaN_int.calls a1 true _ A4.out).mono ?_); rintro e w' ⟨rfl, ⟨nd, rfl⟩⟩; refine ⟨_, rfl, ?_⟩))
   go_ret
   exact ⟨caal, by repeat (first | exact Drawn0.refl _ | apply Drawn0.step)⟩
  ·replace c6 := Bool.eq_false_iff.mpr c6; subst c6; have H1 : (some (-1)) = some r := by rw [if_neg (show ¬ (false = true) by decide)] at H; exact H
   clear H; have H := H1; clear H1; obtain rfl := Option.some.inj H
   go_enter Try.func90, Try.ntmps90
   go_wp2_with (first | ((with_reducible refine G.f 107 rfl ?_); refine G.gL 8 Try.func107 #[.int .i64 a0] ?_; (with_reducible refine (cmp_isNaN_int.calls a0 true _ A3.out).mono ?_); rintro e w' ⟨rfl, ⟨nd, rfl⟩⟩; refine ⟨_, rfl, ?_⟩) | ((with_reducible refine G.f 107 rfl ?_); refine G.gL 10 Try.func107 #[.int .i64 a1] ?_; (with_reducible refine (cmp_isNaN_int.calls a1 false _ A4.out).mono ?_); rintro e w' ⟨rfl, ⟨nd, rfl⟩⟩; refine ⟨_, rfl, ?_⟩))
   go_ret
   exact ⟨caal, by repeat (first | exact Drawn0.refl _ | apply Drawn0.step)⟩
 ·replace c5 := Bool.eq_false_iff.mpr c5; subst c5; have H1 : (if az = true then (some 1) else (if a0 < a1 then (some (-1)) else (if a0 > a1 then (some 1) else (some 0)))) = some r := by rw [if_neg (show ¬ (false = true) by decide)] at H; exact H
  clear H; have H := H1; clear H1
  by_cases c7 : az = true
  ·subst c7; have H1 : (some 1) = some r := by rw [if_pos rfl] at H; exact H
   clear H; have H := H1; clear H1; obtain rfl := Option.some.inj H
   go_enter Try.func90, Try.ntmps90
   go_wp2_with (first | ((with_reducible refine G.f 107 rfl ?_); refine G.gL 8 Try.func107 #[.int .i64 a0] ?_; (with_reducible refine (cmp_isNaN_int.calls a0 false _ A3.out).mono ?_); rintro e w' ⟨rfl, ⟨nd, rfl⟩⟩; refine ⟨_, rfl, ?_⟩) | ((with_reducible refine G.f 107 rfl ?_); refine G.gL 10 Try.func107 #[.int .i64 a1] ?_; (with_reducible refine (cmp_isNaN_int.calls a1 true _ A4.out).mono ?_); rintro e w' ⟨rfl, ⟨nd, rfl⟩⟩; refine ⟨_, rfl, ?_⟩))
   go_ret
   exact ⟨caal, by repeat (first | exact Drawn0.refl _ | apply Drawn0.step)⟩
  ·replace c7 := Bool.eq_false_iff.mpr c7; subst c7; have H1 : (if a0 < a1 then (some (-1)) else (if a0 > a1 then (some 1) else (some 0))) = some r := by rw [if_neg (show ¬ (false = true) by decide)] at H; exact H
   clear H; have H := H1; clear H1
   by_cases c8 : a0 < a1
   ·rw [if_pos c8] at H; have bB : decide (a0 < a1) = true := decide_eq_true c8; clear c8; obtain rfl := Option.some.inj H
    go_enter Try.func90, Try.ntmps90
    go_wp2_with (first | ((with_reducible refine G.f 107 rfl ?_); refine G.gL 8 Try.func107 #[.int .i64 a0] ?_; (with_reducible refine (cmp_isNaN_int.calls a0 false _ A3.out).mono ?_); rintro e w' ⟨rfl, ⟨nd, rfl⟩⟩; refine ⟨_, rfl, ?_⟩) | ((with_reducible refine G.f 107 rfl ?_); refine G.gL 10 Try.func107 #[.int .i64 a1] ?_; (with_reducible refine (cmp_isNaN_int.calls a1 false _ A4.out).mono ?_); rintro e w' ⟨rfl, ⟨nd, rfl⟩⟩; refine ⟨_, rfl, ?_⟩))
    go_ret
    exact ⟨caal, by repeat (first | exact Drawn0.refl _ | apply Drawn0.step)⟩
   ·rw [if_neg c8] at H; have bB : decide (a0 < a1) = false := decide_eq_false c8; clear c8
    by_cases c9 : a0 > a1
    ·rw [if_pos c9] at H; have bC : decide (a1 < a0) = true := decide_eq_true c9; clear c9; obtain rfl := Option.some.inj H
     go_enter Try.func90, Try.ntmps90
     go_wp2_with (first | ((with_reducible refine G.f 107 rfl ?_); refine G.gL 8 Try.func107 #[.int .i64 a0] ?_; (with_reducible refine (cmp_isNaN_int.calls a0 false _ A3.out).mono ?_); rintro e w' ⟨rfl, ⟨nd, rfl⟩⟩; refine ⟨_, rfl, ?_⟩) | ((with_reducible refine G.f 107 rfl ?_); refine G.gL 10 Try.func107 #[.int .i64 a1] ?_; (with_reducible refine (cmp_isNaN_int.calls a1 false _ A4.out).mono ?_); rintro e w' ⟨rfl, ⟨nd, rfl⟩⟩; refine ⟨_, rfl, ?_⟩))
     go_ret
     exact ⟨caal, by repeat (first | exact Drawn0.refl _ | apply Drawn0.step)⟩
    ·rw [if_neg c9] at H; have bC : decide (a1 < a0) = false := decide_eq_false c9; clear c9; obtain rfl := Option.some.inj H
     go_enter Try.func90, Try.ntmps90
     go_wp2_with (first | ((with_reducible refine G.f 107 rfl ?_); refine G.gL 8 Try.func107 #[.int .i64 a0] ?_; (with_reducible refine (cmp_isNaN_int.calls a0 false _ A3.out).mono ?_); rintro e w' ⟨rfl, ⟨nd, rfl⟩⟩; refine ⟨_, rfl, ?_⟩) | ((with_reducible refine G.f 107 rfl ?_); refine G.gL 10 Try.func107 #[.int .i64 a1] ?_; (with_reducible refine (cmp_isNaN_int.calls a1 false _ A4.out).mono ?_); rintro e w' ⟨rfl, ⟨nd, rfl⟩⟩; refine ⟨_, rfl, ?_⟩))
     go_ret
     exact ⟨caal, by repeat (first | exact Drawn0.refl _ | apply Drawn0.step)⟩
def impl_tieOrder.f (k : Nat) (ae : Int) (aE : Int) (aP : Int) (aJ : Int) : Option (Int) := (cmp_Compare_int.f ae aP).bind fun aF => ((cmp_Compare_int.f aE aJ).bind fun aC => ((cmp_Or_int.f k (([aF, aC] : List Int))).bind fun aG => (some aG)))
def impl_tieOrder.T1 : Bool × List (List Nat × List Nat) := (true, [([], []), ([0], [0]), ([], []), ([2], [2]), ([1, 3], [1, 3]), ([], []), ([5], [5]), ([], []), ([7], [7]), ([6, 8, 4], [6, 8]), ([4, 9], [4, 9]), ([10, 9], [10]), ([11, 11, 0, 1, 2, 3, 4, 5, 6, 7, 8, 9, 10, 11], [11])])
def impl_tieOrder.B1 : List Nat := [0, 1, 0, 4, 15, 0, 32, 0, 128, 511, 1023, 2047, 4095]
theorem impl_tieOrder.tab1 : rtab .any (opsOf Try.f84 1) = impl_tieOrder.T1 := by kernel_rfl
theorem impl_tieOrder.bits1 : waitsOk impl_tieOrder.T1.2 impl_tieOrder.B1 = true := by kernel_rfl
set_option maxHeartbeats 8000000 in
set_option maxRecDepth 100000 in
theorem impl_tieOrder.calls (k : Nat) (ae : Int) (aE : Int) (aP : Int) (aJ : Int) (r : Int) (w : World) (h : impl_tieOrder.f k ae aE aP aJ = some r) :
  Calls Try.prog 84 #[.agg #[.int .i64 ae, .int .i64 aE], .agg #[.int .i64 aP, .int .i64 aJ]] w fun e w' => e = .returned (.int .i64 r) ∧ Below w.heap.size w w' := by
 have bM := Try.underlying53; have HB := G.m (Below.refl w.heap.size w); have H : ((cmp_Compare_int.f ae aP).bind fun aF => ((cmp_Compare_int.f aE aJ).bind fun aC => ((cmp_Or_int.f k (([aF, aC] : List Int))).bind fun aG => (some aG)))) = some r := h; clear h; obtain ⟨aF, A3, H⟩ := G.bi H; replace H : ((cmp_Compare_int.f aE aJ).bind fun aC => ((cmp_Or_int.f k (([aF, aC] : List Int))).bind fun aG => (some aG))) = some r := H; obtain ⟨aC, A4, H⟩ := G.bi H; replace H : ((cmp_Or_int.f k (([aF, aC] : List Int))).bind fun aG => (some aG)) = some r := H; obtain ⟨bD, a8⟩ : ∃ y_ : List Int, y_ = (([aF, aC] : List Int)) := ⟨_, rfl⟩; replace H : ((cmp_Or_int.f k bD).bind fun aG => (some aG)) = some r := by first | (rw [a8]; with_reducible exact H) | (have bN := (Option.bind_some _ _).symm.trans H; rw [a8]; with_reducible exact bN) | (have bN := (Option.bind_some _ _).symm.trans H; with_reducible exact bN) | with_reducible exact H | (rw [a8]; exact H) | exact H
 have bG := G.m a8; clear a8; obtain ⟨aG, A5, H⟩ := G.bi H; replace H : (some aG) = some r := H; obtain rfl := Option.some.inj H
 go_enter Try.func84, Try.ntmps84; try go_wp2_with (first | ((with_reducible refine G.h 2 rfl ?_); refine G.be 2 #[.int .i64 ae, .int .i64 aE] 53 ?_; intro aI hg w6 hbox hb; have n0 := G.bs HB hb; have n1 := G.m (hbox); have n2 := G.m (caam : w.heap.size ≤ aI); have n3 := G.m (caam : w.heap.size ≤ aI); clear HB; revert n0 n1 n2 n3; intro HB ag dd de; clear hb hbox hg) | ((with_reducible refine G.h 3 rfl ?_); refine G.be 3 #[.int .i64 aP, .int .i64 aJ] 53 ?_; intro aS hg w7 hbox hb; have n0 := G.bb ag hb; have n1 := G.bs HB hb; have n2 := G.m (hbox); have n3 := G.m (caam : w.heap.size ≤ aS); have n4 := G.m (caam : w.heap.size ≤ aS); have n5 := G.m ((by rw [hg]; exact Nat.ne_of_lt (blk_lt (g := aI) (o := .cells #[.int .i64 ae, .int .i64 aE] 53 (0, 0)) (G.cb ag.out)) : aI ≠ aS)); have n6 := G.m ((by rw [hg]; exact Nat.ne_of_gt (blk_lt (g := aI) (o := .cells #[.int .i64 ae, .int .i64 aE] 53 (0, 0)) (G.cb ag.out)) : aS ≠ aI)); clear ag HB; revert n0 n1 n2 n3 n4 n5 n6; intro ag HB ak df dg b1 b2; clear hb hbox hg))
 have n0 := G.m (blk_drew ag.out); have n1 := G.m (blk_drew ak.out); have n2 := G.m (below_drew1 HB.out); clear ag ak HB; revert n0 n1 n2; intro ag ak HB; refine G.st 13 (S := fun w' => w'.cell? ⟨aI, 0, none⟩ = some (.int .i64 ae) ∧ w'.cell? ⟨aI, 1, none⟩ = some (.int .i64 aE) ∧ w'.cell? ⟨aS, 0, none⟩ = some (.int .i64 aP) ∧ w'.cell? ⟨aS, 1, none⟩ = some (.int .i64 aJ)) [] ⟨G.z ag 0, G.z ag 1, G.z ak 0, G.z ak 1⟩ impl_tieOrder.tab1 impl_tieOrder.bits1 (fun hHeld HT_ HW_ => ?_); generalize w7.drew = w8 at ag ak HB hHeld ⊢; refine G.pu 0 5 1 ?_; refine G.pu 2 7 5 ?_; refine G.pu 5 10 37 ?_; refine G.pu 7 12 165 ?_; refine G.ta4 1 6 167 ?_; refine G.ta4 3 8 175 ?_; refine G.ta4 6 11 239 ?_; refine G.ta4 8 13 495 ?_; refine G.on 4 9 511 (fun K hK => ?_); refine G.gs Try.func90 #[.int .i64 ae, .int .i64 aP] ?_; with_reducible refine (cmp_Compare_int.calls ae aP aF _ A3.out).mono ?_
 rintro e w' ⟨rfl, ⟨nd, rfl⟩⟩; refine ⟨_, rfl, ?_⟩; refine hK.out _ _ ⟨G.z ag 0, G.z ag 1, G.z ak 0, G.z ak 1⟩ (fun hHeld => ?_); clear hK K; refine G.no 9 ?_; refine G.on 9 14 1023 (fun K hK => ?_); refine G.gs Try.func90 #[.int .i64 aE, .int .i64 aJ] ?_; with_reducible refine (cmp_Compare_int.calls aE aJ aC _ A4.out).mono ?_
 rintro e w' ⟨rfl, ⟨nd, rfl⟩⟩; refine ⟨_, rfl, ?_⟩; refine hK.out _ _ ⟨G.z ag 0, G.z ag 1, G.z ak 0, G.z ak 1⟩ (fun hHeld => ?_); clear hK K; refine G.no 14 ?_; refine G.on 10 15 2047 (fun K hK => ?_); refine Kd.R_lit_step (Kd.int .i64) _ 3 ?hg (N := 15) ?hd (xs := ([aF, aC] : List Int)) (inner := [.int .i64 aF, .int .i64 aC]) (ok := fun _ => True) (okp := fun _ => True) ?hr ?hp (fun _ hk => hk) trivial (Below.refl _ _) (Nat.le_refl _) (by simp) ?_; (case hd => rfl); (case hg => rfl); (case hr => first | (go_simp; done) | (go_simp; rfl)); (case hp => exact (Reps.one (show Kd.M (Kd.int .i64) _ _ _ aF [.int .i64 aF] from rfl) (Reps.one (show Kd.M (Kd.int .i64) _ _ _ aC [.int .i64 aC] from rfl) (Reps.none _ _)))); intro dy w9 bh hb hg_ hnew_; clear hg_ hnew_; (first | rw [← bG.out] at bh | (simp only [Int.reduceToNat] at bh; rw [← bG.out] at bh)); have n0 := G.m (Kd.R_lower bh (below_size (G.cB HB.out))); have n1 := G.bb ag hb; have n2 := G.bb ak hb; have n3 := G.bs HB hb; clear ag ak HB; revert n0 n1 n2 n3; intro bn ag ak HB; clear hb bh; obtain ⟨ca, cd, bO⟩ := Kd.R_slice bn.out; (first | subst bO | (injection bO with b3 cL b4; have cM := b3.symm; have cN := b4.symm; clear b3 cL b4; subst cM; subst cN)); refine hK.out _ _ ⟨G.z ag 0, G.z ag 1, G.z ak 0, G.z ak 1⟩ (fun hHeld => ?_); clear hK K; refine G.no 15 ?_; refine G.on 11 16 4095 (fun K hK => ?_); refine G.gs Try.func89 #[.slice ca bD.length cd] ?_; with_reducible refine (cmp_Or_int.calls k _ _ bD aG _ ?side1 ?side2 A5.out).mono ?_
 (case side1 => exact G.cC (Kd.R_reads' bn.out).2.2); (case side2 => exact (Kd.R_reads' bn.out).2.1); rintro e w' ⟨rfl, ⟨nd, rfl⟩⟩; refine ⟨_, rfl, ?_⟩; refine hK.out _ _ ⟨G.z ag 0, G.z ag 1, G.z ak 0, G.z ak 1⟩ (fun hHeld => ?_); clear hK K; refine G.no 16 ?_; refine G.pu 12 4 8191 ?_; refine done_ (done_of HT_.out (caao)) ?_; try go_wp2
 go_ret
 exact ⟨caan, G.cB HB.out⟩
def impl_ascending.l0 : Nat → List (S53) → Int → Option (Bool)
 | 0, _, _ => none
 | k + 1, x0, x3 => if x3 < (x0.length : Int) then (if 0 ≤ (wrap64 (x3 - 1)) then (if (wrap64 (x3 - 1)) < (x0.length : Int) then (if 0 ≤ x3 then ((impl_tieOrder.f k ((rd_T53 x0 (wrap64 (x3 - 1))).f0) ((rd_T53 x0 (wrap64 (x3 - 1))).f1) ((rd_T53 x0 x3).f0) ((rd_T53 x0 x3).f1)).bind fun aK => (if aK ≥ 0 then (some false) else (impl_ascending.l0 k x0 (wrap64 (x3 + 1))))) else (none)) else (none)) else (none)) else (some true)
def impl_ascending.f (k : Nat) (l0 : List (S53)) : Option (Bool) := impl_ascending.l0 k l0 1
def impl_ascending.T4 : Bool × List (List Nat × List Nat) := (true, [([], []), ([], []), ([1], [1]), ([0, 2], [0, 2]), ([3], [3]), ([], []), ([], []), ([5, 6], [5, 6]), ([7], [7]), ([4, 8], [4, 8]), ([9], [9])])
def impl_ascending.B4 : List Nat := [0, 0, 2, 7, 15, 0, 0, 96, 224, 511, 1023]
theorem impl_ascending.tab4 : rtab .any (opsOf Try.f68 4) = impl_ascending.T4 := by kernel_rfl
theorem impl_ascending.bits4 : waitsOk impl_ascending.T4.2 impl_ascending.B4 = true := by kernel_rfl
set_option maxHeartbeats 8000000 in
set_option maxRecDepth 100000 in
theorem impl_ascending.calls (k : Nat) (A0 : Option Addr) (c0 : Nat) (l0 : List (S53)) (r : Bool) (w : World) (bu : Kd.C k53 w A0 l0.length l0) (bv : l0.length ≤ c0) (h : impl_ascending.f k l0 = some r) :
  Calls Try.prog 68 #[.slice A0 l0.length c0] w fun e w' => e = .returned (.bool r) ∧ Below w.heap.size w w' := by
 have bM := Try.underlying53; have bf := G.m bu; have cJ := G.m bv; clear bu bv; have HB := G.m (Below.refl w.heap.size w); have H : (impl_ascending.l0 k l0 1) = some r := h; clear h; have H' := G.m H; clear H
 go_enter Try.func68, Try.ntmps68
 go_wp2
 go_loopg [3] k (fun kq v3 w' => ∃ (ac : Int), v3 = .int .i64 ac ∧ Aside0 (impl_ascending.l0 kq l0 ac = some r) ∧ Aside0 (kq ≤ k) ∧ Aside0 (Below w.heap.size w w'))
 case atStart => exact ⟨(1), (caal), H', ⟨Nat.le_refl _⟩, ⟨G.cB HB.out⟩⟩
 case round =>
  clear H'; obtain ⟨ac, rfl, HA, bw, HB⟩ := hrel; cases gk with
  | zero => exact absurd HA.out (by simp [impl_ascending.l0])
  | succ k1 =>
   have H := HA.out; clear HA; simp only [impl_ascending.l0] at H
   by_cases c2 : ac < (l0.length : Int)
   ·rw [if_pos c2] at H; have bz : decide (ac < (l0.length : Int)) = true := decide_eq_true c2; clear c2; obtain ⟨ah, bd⟩ : ∃ j_ : Int, (wrap64 (ac - 1)) = j_ := ⟨_, rfl⟩; replace H : (if 0 ≤ (ah) then (if (ah) < (l0.length : Int) then (if 0 ≤ ac then ((impl_tieOrder.f k1 ((rd_T53 l0 (ah)).f0) ((rd_T53 l0 (ah)).f1) ((rd_T53 l0 ac).f0) ((rd_T53 l0 ac).f1)).bind fun aK => (if aK ≥ 0 then (some false) else (impl_ascending.l0 k1 l0 (wrap64 (ac + 1))))) else (none)) else (none)) else (none)) = some r := by first | (rw [bd] at H; exact H) | (simp only [bd] at H ⊢; exact H)
    have dh : (IntKind.i64.wrap (ac - 1)) = ah := (i64_w _).trans bd
    by_cases c4 : 0 ≤ (ah)
    ·rw [if_pos c4] at H; have aU : decide (0 ≤ (ah)) = true := decide_eq_true c4; clear c4
     by_cases c5 : (ah) < (l0.length : Int)
     ·rw [if_pos c5] at H; have bL : decide ((ah) < (l0.length : Int)) = true := decide_eq_true c5; clear c5
      by_cases c6 : 0 ≤ ac
      ·rw [if_pos c6] at H; have dz : decide (0 ≤ ac) = true := decide_eq_true c6; clear c6; obtain ⟨aK, A7, H⟩ := G.bi H; replace H : (if aK ≥ 0 then (some false) else (impl_ascending.l0 k1 l0 (wrap64 (ac + 1)))) = some r := H
       by_cases c8 : aK ≥ 0
       ·rw [if_pos c8] at H; have bB : decide (0 ≤ aK) = true := decide_eq_true c8; clear c8; obtain rfl := Option.some.inj H; try go_wp2
        have n0 := G.m (below_drew1 HB.out); clear HB; revert n0; intro HB; have aY : 0 ≤ ((ah) : Int) := of_decide_eq_true (G.asm); have aZ : (ah) < (l0.length : Int) := of_decide_eq_true (G.asm); obtain ⟨ap, bE, av, aw⟩ := at_T53 bf.out (ah) aY aZ; have aL := aw; have aM := av; cases bE; replace av := G.hx HB av; replace aw := G.hx HB aw; replace aY := eq_true aY; replace aZ := eq_true aZ; have a4 : 0 ≤ (ac : Int) := of_decide_eq_true (G.asm); have a5 : ac < (l0.length : Int) := of_decide_eq_true (G.asm); obtain ⟨bo, bF, ax, ay⟩ := at_T53 bf.out ac a4 a5; have aN := ay; have aO := ax; obtain rfl : ap = bo := (by injection bF); replace ax := G.hx HB ax; replace ay := G.hx HB ay; replace a4 := eq_true a4; replace a5 := eq_true a5; refine G.st 11 (S := fun w' => w'.cell? (ap.add (((ah)).toNat * 2)) = some (.int .i64 ((rd_T53 l0 (ah)).f0)) ∧ w'.cell? ⟨(ap.add (((ah)).toNat * 2)).block, (ap.add (((ah)).toNat * 2)).off + 1, none⟩ = some (.int .i64 ((rd_T53 l0 (ah)).f1)) ∧ w'.cell? (ap.add ((ac).toNat * 2)) = some (.int .i64 ((rd_T53 l0 ac).f0)) ∧ w'.cell? ⟨(ap.add ((ac).toNat * 2)).block, (ap.add ((ac).toNat * 2)).off + 1, none⟩ = some (.int .i64 ((rd_T53 l0 ac).f1))) [] ⟨(G.hx HB aM), (G.hx HB aL), (G.hx HB aO), (G.hx HB aN)⟩ impl_ascending.tab4 impl_ascending.bits4 (fun hHeld HT_ HW_ => ?_); generalize wr.drew = w9 at HB av aw ax ay hHeld ⊢; refine G.pu 0 10 1 ?_; refine G.pu 1 11 3 ?_; refine G.pu 2 12 7 ?_; refine G.pu 3 13 15 ?_; refine G.pu 5 15 47 ?_; refine G.pu 6 16 111 ?_; refine G.pu 7 17 239 ?_; refine G.ta4 4 14 255 ?_; refine G.ta4 8 18 511 ?_; refine G.on 9 19 1023 (fun K hK => ?_); refine goes_ Try.func84 (caao) rfl #[.agg #[.int .i64 ((rd_T53 l0 (ah)).f0), .int .i64 ((rd_T53 l0 (ah)).f1)], .agg #[.int .i64 ((rd_T53 l0 ac).f0), .int .i64 ((rd_T53 l0 ac).f1)]] (by rfl) rfl rfl (caar) ?_; with_reducible refine (impl_tieOrder.calls k1 ((rd_T53 l0 (ah)).f0) ((rd_T53 l0 (ah)).f1) ((rd_T53 l0 ac).f0) ((rd_T53 l0 ac).f1) aK _ A7.out).mono ?_
        rintro e dB ⟨rfl, hb⟩; refine ⟨_, rfl, ?_⟩; have n0 := G.bs HB hb; clear HB; revert n0; intro HB; (try clear hb); refine hK.out _ _ ⟨(G.hx HB aM), (G.hx HB aL), (G.hx HB aO), (G.hx HB aN)⟩ (fun hHeld => ?_); clear hK K; refine G.no 19 ?_; refine G.pu 10 20 2047 ?_; refine done_ (done_of HT_.out (caao)) ?_; try go_wp2
        go_ret
        exact ⟨by first | rfl | (simp [errW_none, errW_some] <;> rfl) | (simp only [← bd]; first | rfl | (simp [errW_none, errW_some] <;> rfl)) | (simp [*, errW_none, errW_some] <;> rfl), G.cB HB.out⟩
       ·rw [if_neg c8] at H; have bB : decide (0 ≤ aK) = false := decide_eq_false c8; clear c8; have H' := G.m H; clear H; try go_wp2
        have n0 := G.m (below_drew1 HB.out); clear HB; revert n0; intro HB; have aY : 0 ≤ ((ah) : Int) := of_decide_eq_true (G.asm); have aZ : (ah) < (l0.length : Int) := of_decide_eq_true (G.asm); obtain ⟨ap, bE, av, aw⟩ := at_T53 bf.out (ah) aY aZ; have aL := aw; have aM := av; cases bE; replace av := G.hx HB av; replace aw := G.hx HB aw; replace aY := eq_true aY; replace aZ := eq_true aZ; have a4 : 0 ≤ (ac : Int) := of_decide_eq_true (G.asm); have a5 : ac < (l0.length : Int) := of_decide_eq_true (G.asm); obtain ⟨bo, bF, ax, ay⟩ := at_T53 bf.out ac a4 a5; have aN := ay; have aO := ax; obtain rfl : ap = bo := (by injection bF); replace ax := G.hx HB ax; replace ay := G.hx HB ay; replace a4 := eq_true a4; replace a5 := eq_true a5; refine G.st 11 (S := fun w' => w'.cell? (ap.add (((ah)).toNat * 2)) = some (.int .i64 ((rd_T53 l0 (ah)).f0)) ∧ w'.cell? ⟨(ap.add (((ah)).toNat * 2)).block, (ap.add (((ah)).toNat * 2)).off + 1, none⟩ = some (.int .i64 ((rd_T53 l0 (ah)).f1)) ∧ w'.cell? (ap.add ((ac).toNat * 2)) = some (.int .i64 ((rd_T53 l0 ac).f0)) ∧ w'.cell? ⟨(ap.add ((ac).toNat * 2)).block, (ap.add ((ac).toNat * 2)).off + 1, none⟩ = some (.int .i64 ((rd_T53 l0 ac).f1))) [] ⟨(G.hx HB aM), (G.hx HB aL), (G.hx HB aO), (G.hx HB aN)⟩ impl_ascending.tab4 impl_ascending.bits4 (fun hHeld HT_ HW_ => ?_); generalize wr.drew = dC at HB av aw ax ay hHeld ⊢; refine G.pu 0 10 1 ?_; refine G.pu 1 11 3 ?_; refine G.pu 2 12 7 ?_; refine G.pu 3 13 15 ?_; refine G.pu 5 15 47 ?_; refine G.pu 6 16 111 ?_; refine G.pu 7 17 239 ?_; refine G.ta4 4 14 255 ?_; refine G.ta4 8 18 511 ?_; refine G.on 9 19 1023 (fun K hK => ?_); refine goes_ Try.func84 (caao) rfl #[.agg #[.int .i64 ((rd_T53 l0 (ah)).f0), .int .i64 ((rd_T53 l0 (ah)).f1)], .agg #[.int .i64 ((rd_T53 l0 ac).f0), .int .i64 ((rd_T53 l0 ac).f1)]] (by rfl) rfl rfl (caar) ?_; with_reducible refine (impl_tieOrder.calls k1 ((rd_T53 l0 (ah)).f0) ((rd_T53 l0 (ah)).f1) ((rd_T53 l0 ac).f0) ((rd_T53 l0 ac).f1) aK _ A7.out).mono ?_
        rintro e dD ⟨rfl, hb⟩; refine ⟨_, rfl, ?_⟩; have n0 := G.bs HB hb; clear HB; revert n0; intro HB; (try clear hb); refine hK.out _ _ ⟨(G.hx HB aM), (G.hx HB aL), (G.hx HB aO), (G.hx HB aN)⟩ (fun hHeld => ?_); clear hK K; refine G.no 19 ?_; refine G.pu 10 20 2047 ?_; refine done_ (done_of HT_.out (caao)) ?_; try go_wp2
        go_roundg k1
        case measure => have := bw.out; omega
        case rel => exact ⟨(wrap64 (ac + 1)), (caal), H', ⟨by have := bw.out; omega⟩, ⟨G.cB HB.out⟩⟩
      ·rw [if_neg c6] at H; exact absurd H (by simp)
     ·rw [if_neg c5] at H; exact absurd H (by simp)
    ·rw [if_neg c4] at H; exact absurd H (by simp)
   ·rw [if_neg c2] at H; have bz : decide (ac < (l0.length : Int)) = false := decide_eq_false c2; clear c2; obtain rfl := Option.some.inj H
    go_wp2
    go_ret
    exact ⟨caan, G.cB HB.out⟩
mutual
def impl_NetOk.j0 : Nat → Bool → Int → List (S53) → Option (Bool)
 | 0, _, _, _ => none
 | k + 1, cO, aT, aH => if cO = true then (some false) else (impl_NetOk.l0 k aH (aH.length : Int) 0 aT aH)
def impl_NetOk.l0 : Nat → List (S53) → Int → Int → Int → List (S53) → Option (Bool)
 | 0, _, _, _, _, _ => none
 | k + 1, bj, b5, ba, aT, aH => if ba < b5 then (if 0 ≤ ba then (if ba < (bj.length : Int) then (if ((rd_T53 bj ba).f0) < 0 then (some false) else (if ((rd_T53 bj ba).f0) ≥ ((rd_T53 bj ba).f1) then (some false) else (if ((rd_T53 bj ba).f1) ≥ aT then (some false) else (impl_NetOk.l0 k bj b5 (wrap64 (ba + 1)) aT aH)))) else (none)) else (none)) else ((impl_ascending.f k aH).bind fun bp => (some bp))
end
def impl_NetOk.f (k : Nat) (ae : Int) (aa : List (S53)) : Option (Bool) := if ae < 0 then (impl_NetOk.j0 k true ae aa) else (impl_NetOk.j0 k (decide (ae > 8)) ae aa)
set_option maxHeartbeats 8000000 in
set_option maxRecDepth 100000 in
theorem impl_NetOk.calls (k : Nat) (ae : Int) (a_ : Option Addr) (aR : Nat) (aa : List (S53)) (r : Bool) (w : World) (bH : Kd.C k53 w a_ aa.length aa) (bI : aa.length ≤ aR) (h : impl_NetOk.f k ae aa = some r) :
  Calls Try.prog 45 #[.agg #[.int .i64 ae, .slice a_ aa.length aR]] w fun e w' => e = .returned (.bool r) ∧ Below w.heap.size w w' := by
 have dA := Try.underlying30; have bM := Try.underlying53; have a9 := G.m bH; have bW := G.m bI; clear bH bI; have HB := G.m (Below.refl w.heap.size w); have H : (if ae < 0 then (impl_NetOk.j0 k true ae aa) else (impl_NetOk.j0 k (decide (ae > 8)) ae aa)) = some r := h; clear h; have bP := G.m H; clear H
 go_enter Try.func45, Try.ntmps45
 go_upto_region 1 with (first | ((with_reducible refine G.h 1 rfl ?_); refine G.be 1 #[.int .i64 ae, .slice a_ aa.length aR] 30 ?_; intro aq hg w3 hbox hb; have n0 := G.bs HB hb; have n1 := G.m (hbox); have n2 := G.m (caam : w.heap.size ≤ aq); have n3 := G.m (caam : w.heap.size ≤ aq); clear HB; revert n0 n1 n2 n3; intro HB af di dj; clear hb hbox hg))
 (try simp only [Act.put, List.setIfInBounds_toArray, List.set_cons_zero, List.set_cons_succ])
 go_cut [12] (fun cP wc => ∃ (kq : Nat) (bc : Bool), cP = .bool bc ∧ Aside0 (impl_NetOk.j0 kq bc ae aa = some r) ∧ Aside0 (kq ≤ k) ∧ Aside0 (wc.heap[aq]? = some (.cells #[.int .i64 ae, (.slice a_ aa.length aR)] 30 (0, 0))) ∧ Aside0 (Below w.heap.size w wc))
 case first =>
  have H := bP.out; clear bP
  by_cases c4 : ae < 0
  ·rw [if_pos c4] at H; have aU : decide (ae < 0) = true := decide_eq_true c4; clear c4; (first | rw [aU] | (simp only [i64_w, i32_w]; rw [aU]) | skip); have H' := G.m H; clear H; have ⟨cQ, cS, cT, cU⟩ := G.d2 (w := w3) af
   go_wp2
   go_meet
   case rel => exact ⟨_, (true), (caal), H', ⟨by first | omega | exact Nat.le_refl _⟩, ⟨G.cb af.out⟩, ⟨G.cB HB.out⟩⟩
  ·rw [if_neg c4] at H; have aU : decide (ae < 0) = false := decide_eq_false c4; clear c4; (first | rw [aU] | (simp only [i64_w, i32_w]; rw [aU]) | skip); have H' := G.m H; clear H; have ⟨cW, cX, cY, cZ⟩ := G.d2 (w := w3) af
   go_wp2
   go_meet
   case rel => exact ⟨_, (decide (ae > 8)), (caal), H', ⟨by first | omega | exact Nat.le_refl _⟩, ⟨G.cb af.out⟩, ⟨G.cB HB.out⟩⟩
 case rest =>
  clear bP; obtain ⟨kq, bc, rfl, HA, b6, af, HB⟩ := hcut; cases kq with
  | zero => exact absurd HA.out (by simp [impl_NetOk.j0])
  | succ bQ =>
   have H := HA.out; clear HA; simp only [impl_NetOk.j0] at H
   by_cases c7 : bc = true
   ·subst c7; have H1 : (some false) = some r := by rw [if_pos rfl] at H; exact H
    clear H; have H := H1; clear H1; obtain rfl := Option.some.inj H
    go_wp2
    go_ret
    exact ⟨caan, G.cB HB.out⟩
   ·replace c7 := Bool.eq_false_iff.mpr c7; subst c7; have H1 : (impl_NetOk.l0 bQ aa (aa.length : Int) 0 ae aa) = some r := by rw [if_neg (show ¬ (false = true) by decide)] at H; exact H
    clear H; have H := H1; clear H1; have H' := G.m H; clear H; have ⟨bR, bS, bT, bU⟩ := G.d2 (w := wc) af
    go_wp2
    go_loopg [16] bQ (fun kq c_ w' => ∃ (ab : Int), c_ = .int .i64 ab ∧ Aside0 (impl_NetOk.l0 kq aa (aa.length : Int) ab ae aa = some r) ∧ Aside0 (kq ≤ bQ) ∧ Aside0 (w'.heap[aq]? = some (.cells #[.int .i64 ae, (.slice a_ aa.length aR)] 30 (0, 0))) ∧ Aside0 (Below w.heap.size w w'))
    case atStart => exact ⟨(0), (caal), H', ⟨Nat.le_refl _⟩, ⟨G.cb af.out⟩, ⟨G.cB HB.out⟩⟩
    case round =>
     clear H'; (try clear c7 bR bS bT bU); obtain ⟨ab, rfl, HA, b7, af, HB⟩ := hrel; cases gk with
     | zero => exact absurd HA.out (by simp [impl_NetOk.l0])
     | succ k2 =>
      have H := HA.out; clear HA; simp only [impl_NetOk.l0] at H
      by_cases c9 : ab < (aa.length : Int)
      ·rw [if_pos c9] at H; have bC : decide (ab < (aa.length : Int)) = true := decide_eq_true c9; clear c9
       by_cases c10 : 0 ≤ ab
       ·rw [if_pos c10] at H; have dk : decide (0 ≤ ab) = true := decide_eq_true c10; clear c10
        by_cases bJ : ab < (aa.length : Int)
        ·rw [if_pos bJ] at H; have dl : decide (ab < (aa.length : Int)) = true := decide_eq_true bJ; clear bJ
         by_cases bk : ((rd_T53 aa ab).f0) < 0
         ·rw [if_pos bk] at H; have bX : decide (((rd_T53 aa ab).f0) < 0) = true := decide_eq_true bk; clear bk; obtain rfl := Option.some.inj H; have aA : 0 ≤ (ab : Int) := of_decide_eq_true (G.asm); have aB : ab < (aa.length : Int) := of_decide_eq_true (G.asm); obtain ⟨a7, a6, am, ao⟩ := at_T53 a9.out ab aA aB; cases a6; replace am := G.hx HB am; replace ao := G.hx HB ao; replace aA := eq_true aA; replace aB := eq_true aB
          go_wp2_with (first | ((with_reducible refine G.h 4 rfl ?_); refine G.be 4 #[.int .i64 0, .int .i64 0] 53 ?_; intro ai hg da hbox hb; have n0 := G.bb af hb; have n1 := G.bs HB hb; have n2 := G.m (hbox); have n3 := G.m (caam : w.heap.size ≤ ai); have n4 := G.m (caam : w.heap.size ≤ ai); have n5 := G.m (caap : aq ≠ ai); have n6 := G.m (caaq : ai ≠ aq); clear af HB; revert n0 n1 n2 n3 n4 n5 n6; intro af HB aQ bq br al au; clear hb hbox hg; have dn := au.out; have dp := al.out; have ⟨ce, cf, cg, ch⟩ := G.d2 (w := da) aQ))
          go_ret
          exact ⟨caan, G.cB HB.out⟩
         ·rw [if_neg bk] at H; have bX : decide (((rd_T53 aa ab).f0) < 0) = false := decide_eq_false bk; clear bk
          by_cases bl : ((rd_T53 aa ab).f0) ≥ ((rd_T53 aa ab).f1)
          ·rw [if_pos bl] at H; have bY : decide (((rd_T53 aa ab).f1) ≤ ((rd_T53 aa ab).f0)) = true := decide_eq_true bl; clear bl; obtain rfl := Option.some.inj H; have aA : 0 ≤ (ab : Int) := of_decide_eq_true (G.asm); have aB : ab < (aa.length : Int) := of_decide_eq_true (G.asm); obtain ⟨a7, a6, am, ao⟩ := at_T53 a9.out ab aA aB; cases a6; replace am := G.hx HB am; replace ao := G.hx HB ao; replace aA := eq_true aA; replace aB := eq_true aB
           go_wp2_with (first | ((with_reducible refine G.h 4 rfl ?_); refine G.be 4 #[.int .i64 0, .int .i64 0] 53 ?_; intro ai hg db hbox hb; have n0 := G.bb af hb; have n1 := G.bs HB hb; have n2 := G.m (hbox); have n3 := G.m (caam : w.heap.size ≤ ai); have n4 := G.m (caam : w.heap.size ≤ ai); have n5 := G.m (caap : aq ≠ ai); have n6 := G.m (caaq : ai ≠ aq); clear af HB; revert n0 n1 n2 n3 n4 n5 n6; intro af HB aQ bq br al au; clear hb hbox hg; have dq := au.out; have dr := al.out; have ⟨ci, cj, ck, cl⟩ := G.d2 (w := db) aQ))
           go_ret
           exact ⟨caan, G.cB HB.out⟩
          ·rw [if_neg bl] at H; have bY : decide (((rd_T53 aa ab).f1) ≤ ((rd_T53 aa ab).f0)) = false := decide_eq_false bl; clear bl
           by_cases bm : ((rd_T53 aa ab).f1) ≥ ae
           ·rw [if_pos bm] at H; have bZ : decide (ae ≤ ((rd_T53 aa ab).f1)) = true := decide_eq_true bm; clear bm; obtain rfl := Option.some.inj H; have aA : 0 ≤ (ab : Int) := of_decide_eq_true (G.asm); have aB : ab < (aa.length : Int) := of_decide_eq_true (G.asm); obtain ⟨a7, a6, am, ao⟩ := at_T53 a9.out ab aA aB; cases a6; replace am := G.hx HB am; replace ao := G.hx HB ao; replace aA := eq_true aA; replace aB := eq_true aB
            go_wp2_with (first | ((with_reducible refine G.h 4 rfl ?_); refine G.be 4 #[.int .i64 0, .int .i64 0] 53 ?_; intro ai hg b8 hbox hb; have n0 := G.bb af hb; have n1 := G.bs HB hb; have n2 := G.m (hbox); have n3 := G.m (caam : w.heap.size ≤ ai); have n4 := G.m (caam : w.heap.size ≤ ai); have n5 := G.m (caap : aq ≠ ai); have n6 := G.m (caaq : ai ≠ aq); clear af HB; revert n0 n1 n2 n3 n4 n5 n6; intro af HB aQ bq br al au; clear hb hbox hg; have dt := au.out; have du := al.out; have ⟨cm, cn, co, cp⟩ := G.d2 (w := b8) aQ; have ⟨cq, cr, ct, cu⟩ := G.d2 (w := b8) af))
            go_ret
            exact ⟨caan, G.cB HB.out⟩
           ·rw [if_neg bm] at H; have bZ : decide (ae ≤ ((rd_T53 aa ab).f1)) = false := decide_eq_false bm; clear bm; have H' := G.m H; clear H; have aA : 0 ≤ (ab : Int) := of_decide_eq_true (G.asm); have aB : ab < (aa.length : Int) := of_decide_eq_true (G.asm); obtain ⟨a7, a6, am, ao⟩ := at_T53 a9.out ab aA aB; cases a6; replace am := G.hx HB am; replace ao := G.hx HB ao; replace aA := eq_true aA; replace aB := eq_true aB
            go_wp2_with (first | ((with_reducible refine G.h 4 rfl ?_); refine G.be 4 #[.int .i64 0, .int .i64 0] 53 ?_; intro ai hg b9 hbox hb; have n0 := G.bb af hb; have n1 := G.bs HB hb; have n2 := G.m (hbox); have n3 := G.m (caam : w.heap.size ≤ ai); have n4 := G.m (caam : w.heap.size ≤ ai); have n5 := G.m (caap : aq ≠ ai); have n6 := G.m (caaq : ai ≠ aq); clear af HB; revert n0 n1 n2 n3 n4 n5 n6; intro af HB aQ bq br al au; clear hb hbox hg; have dv := au.out; have dw := al.out; have ⟨cv, cw, cx, cy⟩ := G.d2 (w := b9) aQ; have ⟨cz, cA, cD, cE⟩ := G.d2 (w := b9) af))
            go_roundg k2
            case measure => have := b6.out; have := b7.out; omega
            case rel => exact ⟨(wrap64 (ab + 1)), (caal), H', ⟨by have := b6.out; have := b7.out; omega⟩, ⟨by (with_reducible repeat (first | refine blk_drewN ?_ _ | refine blk_drew ?_ | refine blk_alloc ?_ _)); refine blk_far ?_ al.out _; (with_reducible repeat (first | refine blk_drewN ?_ _ | refine blk_drew ?_ | refine blk_alloc ?_ _)); refine blk_far ?_ al.out _; (with_reducible repeat (first | refine blk_drewN ?_ _ | refine blk_drew ?_ | refine blk_alloc ?_ _)); exact af.out⟩, ⟨G.cB HB.out⟩⟩
        ·rw [if_neg bJ] at H; exact absurd H (by simp)
       ·rw [if_neg c10] at H; exact absurd H (by simp)
      ·rw [if_neg c9] at H; have bC : decide (ab < (aa.length : Int)) = false := decide_eq_false c9; clear c9; obtain ⟨bp, dc, H⟩ := G.bi H; replace H : (some bp) = some r := H; obtain rfl := Option.some.inj H; have ⟨cF, cG, cH, cI⟩ := G.d2 (w := wr) af
       go_wp2_with (first | ((with_reducible refine G.f 68 rfl ?_); refine G.gL 40 Try.func68 #[.slice a_ aa.length aR] ?_; (with_reducible refine (impl_ascending.calls k2 _ _ aa bp _ ?side1 ?side2 dc.out).mono ?_); (case side1 => exact G.cC (Kd.C_below a9.out HB.out)); (case side2 => exact bW.out); rintro e dE ⟨rfl, hb⟩; refine ⟨_, rfl, ?_⟩; have n0 := G.bb af hb; have n1 := G.bs HB hb; clear af HB; revert n0 n1; intro af HB; (try clear hb)))
       go_ret
       exact ⟨caan, G.cB HB.out⟩
theorem caaN {p : Prop} (h : p := by (with_reducible repeat (first | refine blk_drewN ?_ _ | refine blk_drew ?_ | refine blk_alloc ?_ _)); refine blk_put (cs := #[.int .i64 ((rd_T53 aa ab).f0), .int .i64 0]) ?_ 1 _ rfl; (with_reducible repeat (first | refine blk_drewN ?_ _ | refine blk_drew ?_ | refine blk_alloc ?_ _)); refine blk_put (cs := #[.int .i64 0, .int .i64 0]) ?_ 0 _ rfl; (with_reducible repeat (first | refine blk_drewN ?_ _ | refine blk_drew ?_ | refine blk_alloc ?_ _)); exact aC.out) : p := h
theorem caaO {p : Prop} (h : p := by (with_reducible repeat (first | refine blk_drewN ?_ _ | refine blk_drew ?_ | refine blk_alloc ?_ _)); refine blk_far ?_ aG.out _; (with_reducible repeat (first | refine blk_drewN ?_ _ | refine blk_drew ?_ | refine blk_alloc ?_ _)); refine blk_far ?_ aG.out _; (with_reducible repeat (first | refine blk_drewN ?_ _ | refine blk_drew ?_ | refine blk_alloc ?_ _)); exact ah.out) : p := h
theorem caaP {p : Prop} (h : p := by (with_reducible repeat (first | refine blk_drewN ?_ _ | refine blk_drew ?_ | refine blk_alloc ?_ _)); refine blk_far ?_ aH.out _; (with_reducible repeat (first | refine blk_drewN ?_ _ | refine blk_drew ?_ | refine blk_alloc ?_ _)); refine blk_far ?_ aH.out _; (with_reducible repeat (first | refine blk_drewN ?_ _ | refine blk_drew ?_ | refine blk_alloc ?_ _)); exact aj.out) : p := h
theorem caaQ {p : Prop} (h : p := by (with_reducible repeat (first | refine blk_drewN ?_ _ | refine blk_drew ?_ | refine blk_alloc ?_ _)); refine blk_far ?_ aI.out _; (with_reducible repeat (first | refine blk_drewN ?_ _ | refine blk_drew ?_ | refine blk_alloc ?_ _)); refine blk_far ?_ aI.out _; (with_reducible repeat (first | refine blk_drewN ?_ _ | refine blk_drew ?_ | refine blk_alloc ?_ _)); exact ai.out) : p := h
theorem caaK {p : Prop} (h : p := by (with_reducible repeat (first | apply Kd.R_alloc | apply Kd.R_drewN | apply Kd.R_drew)); exact (Kd.R_mono (Kd.R_far (p := ⟨ak, 1, none⟩) (Kd.R_far (p := ⟨ak, 0, none⟩) (Kd.R_mono af.out (fun k_ hk => (⟨hk, hk.2⟩ : _ ∧ k_ ≠ ak))) (fun _ hk => hk.2) (.int .i64 ((rd_T53 aa ab).f0))) (fun _ hk => hk.2) (.int .i64 ((rd_T53 aa ab).f1))) (fun _ h_ => h_.1))) : p := h
theorem caaR {p : Prop} (h : p := by rw [hg]; exact Nat.ne_of_lt (blk_lt (g := av) (o := .cells #[.int .i64 ag, .slice (some br) aa.length au] 30 (0, 0)) (G.cb ah.out))) : p := h
theorem caaS {p : Prop} (h : p := by rw [hg]; exact Nat.ne_of_gt (blk_lt (g := av) (o := .cells #[.int .i64 ag, .slice (some br) aa.length au] 30 (0, 0)) (G.cb ah.out))) : p := h
theorem caaT {p : Prop} (h : p := by rw [hg]; exact Nat.ne_of_lt (blk_lt (g := av) (o := .cells #[.int .i64 ag, .slice ax aa.length au] 30 (0, 0)) (G.cb ah.out))) : p := h
theorem caaU {p : Prop} (h : p := by rw [hg]; exact Nat.ne_of_gt (blk_lt (g := av) (o := .cells #[.int .i64 ag, .slice ax aa.length au] 30 (0, 0)) (G.cb ah.out))) : p := h
theorem caaM {p : Prop} (h : p := by rw [hg]; exact Nat.ne_of_lt (blk_lt (g := aq) (o := .cells #[.int .i64 0, .slice none 0 0] 30 (0, 0)) (G.cb aj.out))) : p := h
theorem caaL {p : Prop} (h : p := by rw [hg]; exact Nat.ne_of_gt (blk_lt (g := aq) (o := .cells #[.int .i64 0, .slice none 0 0] 30 (0, 0)) (G.cb aj.out))) : p := h
theorem caaJ {p : Prop} (h : p := by first | rfl | (simp [errW_none, errW_some] <;> rfl) | (simp [*, errW_none, errW_some] <;> rfl)) : p := h
theorem caaI {p : Prop} (h : p := by first | rfl | (simp; done) | (simp [*]; done)) : p := h
theorem caaH {p : Prop} (h : p := by rw [hg]; exact (below_size (G.cB HB.out))) : p := h
attribute [local go_sem high] eqA53
def impl_Net_joined.f (k : Nat) (ag : Int) (aa : List (S53)) (a1 : Int) (a2 : Int) : Option (Bool) := (impl_Net_parts.f k ag aa).bind fun al => (if 0 ≤ a1 then (if a1 < (al.length : Int) then (if 0 ≤ a2 then (if a2 < (al.length : Int) then (some ((rd al a1) == (rd al a2))) else (none)) else (none)) else (none)) else (none))
set_option maxHeartbeats 8000000 in
set_option maxRecDepth 100000 in
theorem impl_Net_joined.calls (k : Nat) (ag : Int) (ax : Option Addr) (au : Nat) (aa : List (S53)) (a1 : Int) (a2 : Int) (r : Bool) (w : World) (aT : Kd.C k53 w ax aa.length aa) (aU : aa.length ≤ au) (h : impl_Net_joined.f k ag aa a1 a2 = some r) :
  Calls Try.prog 74 #[.agg #[.int .i64 ag, .slice ax aa.length au], .int .i64 a1, .int .i64 a2] w fun e w' => e = .returned (.bool r) ∧ Below w.heap.size w w' := by
 have cO := Try.underlying30; have aV := G.m aT; have bh := G.m aU; clear aT aU; have HB := G.m (Below.refl w.heap.size w); have H : ((impl_Net_parts.f k ag aa).bind fun al => (if 0 ≤ a1 then (if a1 < (al.length : Int) then (if 0 ≤ a2 then (if a2 < (al.length : Int) then (some ((rd al a1) == (rd al a2))) else (none)) else (none)) else (none)) else (none))) = some r := h; clear h; obtain ⟨al, A4, H⟩ := G.bi H; replace H : (if 0 ≤ a1 then (if a1 < (al.length : Int) then (if 0 ≤ a2 then (if a2 < (al.length : Int) then (some ((rd al a1) == (rd al a2))) else (none)) else (none)) else (none)) else (none)) = some r := H
 by_cases c5 : 0 ≤ a1
 ·rw [if_pos c5] at H; have cP : decide (0 ≤ a1) = true := decide_eq_true c5; clear c5
  by_cases c6 : a1 < (al.length : Int)
  ·rw [if_pos c6] at H; have cj : decide (a1 < (al.length : Int)) = true := decide_eq_true c6; clear c6
   by_cases c7 : 0 ≤ a2
   ·rw [if_pos c7] at H; have cQ : decide (0 ≤ a2) = true := decide_eq_true c7; clear c7
    by_cases c8 : a2 < (al.length : Int)
    ·rw [if_pos c8] at H; have fo : decide (a2 < (al.length : Int)) = true := decide_eq_true c8; clear c8; obtain rfl := Option.some.inj H
     go_enter Try.func74, Try.ntmps74
     go_wp2_with (first | ((with_reducible refine G.h 3 rfl ?_); refine G.be 3 #[.int .i64 ag, .slice ax aa.length au] 30 ?_; intro aW hg w9 hbox hb; have n0 := G.bs HB hb; have n1 := G.m (hbox); have n2 := G.m (caaH : w.heap.size ≤ aW); have n3 := G.m (caaH : w.heap.size ≤ aW); clear HB; revert n0 n1 n2 n3; intro HB ay cp cq; clear hb hbox hg; have ⟨bQ, bR, bS, bT⟩ := G.d2 (w := w9) ay) | (go_at_call 64; (with_reducible refine (impl_Net_parts.calls k ag _ _ aa al _ ?side1 ?side2 A4.out).mono ?_); (case side1 => exact G.cC (Kd.C_below aV.out HB.out)); (case side2 => exact bh.out); rintro e dn ⟨cS, rfl, bF, hb⟩; have n0 := G.m (Kd.R_lower bF (below_size (G.cB HB.out))); have n1 := G.bb ay hb; have n2 := G.bs HB hb; clear ay HB; revert n0 n1 n2; intro aD ay HB; (try clear hb bF); obtain ⟨cT, cU, bK⟩ := Kd.R_slice aD.out; subst bK; have aM : 0 ≤ (a1 : Int) := of_decide_eq_true (G.asm); have aN : a1 < (al.length : Int) := of_decide_eq_true (G.asm); obtain ⟨bu, bL, bU⟩ := Kd.at_int (Kd.R_reads' aD.out).2.2 a1 aM aN; cases bL; replace aM := eq_true aM; replace aN := eq_true aN; have aQ : 0 ≤ (a2 : Int) := of_decide_eq_true (G.asm); have aR : a2 < (al.length : Int) := of_decide_eq_true (G.asm); obtain ⟨bv, bM, bV⟩ := Kd.at_int (Kd.R_reads' aD.out).2.2 a2 aQ aR; obtain rfl : bu = bv := (by injection bM); replace aQ := eq_true aQ; replace aR := eq_true aR))
     repeat (go_quiet (first | ((with_reducible refine G.h 3 rfl ?_); refine G.be 3 #[.int .i64 ag, .slice ax aa.length au] 30 ?_; intro aW hg w9 hbox hb; have n0 := G.bs HB hb; have n1 := G.m (hbox); have n2 := G.m (caaH : w.heap.size ≤ aW); have n3 := G.m (caaH : w.heap.size ≤ aW); clear HB; revert n0 n1 n2 n3; intro HB ay cp cq; clear hb hbox hg; have ⟨bQ, bR, bS, bT⟩ := G.d2 (w := w9) ay) | (go_at_call 64; (with_reducible refine (impl_Net_parts.calls k ag _ _ aa al _ ?side1 ?side2 A4.out).mono ?_); (case side1 => exact G.cC (Kd.C_below aV.out HB.out)); (case side2 => exact bh.out); rintro e dn ⟨cS, rfl, bF, hb⟩; have n0 := G.m (Kd.R_lower bF (below_size (G.cB HB.out))); have n1 := G.bb ay hb; have n2 := G.bs HB hb; clear ay HB; revert n0 n1 n2; intro aD ay HB; (try clear hb bF); obtain ⟨cT, cU, bK⟩ := Kd.R_slice aD.out; subst bK; have aM : 0 ≤ (a1 : Int) := of_decide_eq_true (G.asm); have aN : a1 < (al.length : Int) := of_decide_eq_true (G.asm); obtain ⟨bu, bL, bU⟩ := Kd.at_int (Kd.R_reads' aD.out).2.2 a1 aM aN; cases bL; replace aM := eq_true aM; replace aN := eq_true aN; have aQ : 0 ≤ (a2 : Int) := of_decide_eq_true (G.asm); have aR : a2 < (al.length : Int) := of_decide_eq_true (G.asm); obtain ⟨bv, bM, bV⟩ := Kd.at_int (Kd.R_reads' aD.out).2.2 a2 aQ aR; obtain rfl : bu = bv := (by injection bM); replace aQ := eq_true aQ; replace aR := eq_true aR)); try go_wp2_with (first | ((with_reducible refine G.h 3 rfl ?_); refine G.be 3 #[.int .i64 ag, .slice ax aa.length au] 30 ?_; intro aW hg w9 hbox hb; have n0 := G.bs HB hb; have n1 := G.m (hbox); have n2 := G.m (caaH : w.heap.size ≤ aW); have n3 := G.m (caaH : w.heap.size ≤ aW); clear HB; revert n0 n1 n2 n3; intro HB ay cp cq; clear hb hbox hg; have ⟨bQ, bR, bS, bT⟩ := G.d2 (w := w9) ay) | (go_at_call 64; (with_reducible refine (impl_Net_parts.calls k ag _ _ aa al _ ?side1 ?side2 A4.out).mono ?_); (case side1 => exact G.cC (Kd.C_below aV.out HB.out)); (case side2 => exact bh.out); rintro e dn ⟨cS, rfl, bF, hb⟩; have n0 := G.m (Kd.R_lower bF (below_size (G.cB HB.out))); have n1 := G.bb ay hb; have n2 := G.bs HB hb; clear ay HB; revert n0 n1 n2; intro aD ay HB; (try clear hb bF); obtain ⟨cT, cU, bK⟩ := Kd.R_slice aD.out; subst bK; have aM : 0 ≤ (a1 : Int) := of_decide_eq_true (G.asm); have aN : a1 < (al.length : Int) := of_decide_eq_true (G.asm); obtain ⟨bu, bL, bU⟩ := Kd.at_int (Kd.R_reads' aD.out).2.2 a1 aM aN; cases bL; replace aM := eq_true aM; replace aN := eq_true aN; have aQ : 0 ≤ (a2 : Int) := of_decide_eq_true (G.asm); have aR : a2 < (al.length : Int) := of_decide_eq_true (G.asm); obtain ⟨bv, bM, bV⟩ := Kd.at_int (Kd.R_reads' aD.out).2.2 a2 aQ aR; obtain rfl : bu = bv := (by injection bM); replace aQ := eq_true aQ; replace aR := eq_true aR)))
     go_ret
     exact ⟨caaJ, G.cB HB.out⟩
    ·rw [if_neg c8] at H; exact absurd H (by simp)
   ·rw [if_neg c7] at H; exact absurd H (by simp)
  ·rw [if_neg c6] at H; exact absurd H (by simp)
 ·rw [if_neg c5] at H; exact absurd H (by simp)
def impl_Net_tree.l0 : Nat → List (S53) → Int → Int → Int → List (S53) → Option (Int × (List (S53)))
 | 0, _, _, _, _, _ => none
 | k + 1, bN, cW, bw, bj, aZ => if bw < cW then (if 0 ≤ bw then (if bw < (bN.length : Int) then ((impl_Net_joined.f k bj aZ ((rd_T53 bN bw).f0) ((rd_T53 bN bw).f1)).bind fun bZ => (if bZ = true then (impl_Net_tree.l0 k bN cW (wrap64 (bw + 1)) bj aZ) else (if aZ.length < 8796093022208 then (impl_Net_tree.l0 k bN cW (wrap64 (bw + 1)) bj (aZ ++ [(⟨(rd_T53 bN bw).f0, (rd_T53 bN bw).f1⟩ : S53)])) else (none)))) else (none)) else (none)) else (some (bj, aZ))
def impl_Net_tree.f (k : Nat) (ag : Int) (aa : List (S53)) : Option (Int × (List (S53))) := impl_Net_tree.l0 k aa (aa.length : Int) 0 ag (([] : List (S53)))
set_option maxHeartbeats 8000000 in
set_option maxRecDepth 100000 in
theorem impl_Net_tree.calls (k : Nat) (ag : Int) (ax : Option Addr) (au : Nat) (aa : List (S53)) (r1 : Int) (r2 : List (S53)) (w : World) (aT : Kd.C k53 w ax aa.length aa) (aU : aa.length ≤ au) (h : impl_Net_tree.f k ag aa = some (r1, r2)) :
  Calls Try.prog 50 #[.agg #[.int .i64 ag, .slice ax aa.length au]] w fun e w' => ∃ dp : Value, e = .returned (.agg #[.int .i64 r1, dp]) ∧ Kd.R k53 53 w' w.heap.size (fun _ => True) dp r2 ∧ Below w.heap.size w w' := by
 have cO := Try.underlying30; have ck := Try.underlying53; have aV := G.m aT; have bh := G.m aU; clear aT aU; have HB := G.m (Below.refl w.heap.size w); have H : (impl_Net_tree.l0 k aa (aa.length : Int) 0 ag (([] : List (S53)))) = some (r1, r2) := h; clear h; obtain ⟨b1, bx⟩ : ∃ y_ : List (S53), y_ = (([] : List (S53))) := ⟨_, rfl⟩; replace H : (impl_Net_tree.l0 k aa (aa.length : Int) 0 ag b1) = some (r1, r2) := by first | (rw [bx]; with_reducible exact H) | (have bO := (Option.bind_some _ _).symm.trans H; rw [bx]; with_reducible exact bO) | (have bO := (Option.bind_some _ _).symm.trans H; with_reducible exact bO) | with_reducible exact H | (rw [bx]; exact H) | exact H
 have cr := G.m bx; clear bx; have H' := G.m H; clear H
 go_enter Try.func50, Try.ntmps50
 go_wp2_with (first | ((with_reducible refine G.h 1 rfl ?_); refine G.be 1 #[.int .i64 ag, .slice ax aa.length au] 30 ?_; intro av hg w2 hbox hb; have n0 := G.bs HB hb; have n1 := G.m (hbox); have n2 := G.m (caaH : w.heap.size ≤ av); have n3 := G.m (caaH : w.heap.size ≤ av); clear HB; revert n0 n1 n2 n3; intro HB ah eA eB; clear hb hbox hg) | ((with_reducible refine G.h 2 rfl ?_); refine G.be 2 #[.int .i64 0, .slice none 0 0] 30 ?_; intro aq hg w3 hbox hb; have n0 := G.bb ah hb; have n1 := G.bs HB hb; have n2 := G.m (hbox); have n3 := G.m (caaH : w.heap.size ≤ aq); have n4 := G.m (caaH : w.heap.size ≤ aq); have n5 := G.m (caaT : av ≠ aq); have n6 := G.m (caaU : aq ≠ av); clear ah HB; revert n0 n1 n2 n3 n4 n5 n6; intro ah HB aj eC eD bG bH; clear hb hbox hg; have fp := bG.out; have fq := bH.out; have ⟨b_, ca, cd, ce⟩ := G.d2 (w := w3) ah) | ((with_reducible refine G.h 8 rfl ?_); refine Kd.R_lit k53 _ 53 ?hg (N := 8) ?hd (xs := ([] : List (S53))) (inner := []) (ok := fun _ => True) (okp := fun _ => True) ?hr ?hp (fun _ hk => hk) trivial (Below.refl _ _) (Nat.le_refl _) (by simp) ?_; (case hd => rfl); (case hg => rfl); (case hr => first | (go_simp; done) | (go_simp; rfl)); (case hp => exact (Reps.none _ _)); intro ft w6 cf hb hg_ hnew_; clear hg_ hnew_; (first | rw [← cr.out] at cf | (simp only [Int.reduceToNat] at cf; rw [← cr.out] at cf)); have n0 := G.m (Kd.R_lower cf (below_size (G.cB HB.out))); have n1 := G.bb ah hb; have n2 := G.bb aj hb; have n3 := G.bs HB hb; clear ah aj HB; revert n0 n1 n2 n3; intro bz ah aj HB; clear hb cf; obtain ⟨dq, dr, el⟩ := Kd.R_slice bz.out; subst el) | ((with_reducible refine G.h 3 rfl ?_); refine G.be 3 #[.int .i64 0, .slice none 0 0] 30 ?_; intro ap hg w9 hbox hb; have n0 := G.rb bz hb; have n1 := G.bb ah hb; have n2 := G.bb aj hb; have n3 := G.bs HB hb; have n4 := G.m (hbox); have n5 := G.m (caaH : w.heap.size ≤ ap); have n6 := G.m (caaH : w.heap.size ≤ ap); have n7 := G.m (caaT : av ≠ ap); have n8 := G.m (caaU : ap ≠ av); have n9 := G.m (caaM : aq ≠ ap); have cg := G.m (caaL : ap ≠ aq); clear bz ah aj HB; revert n0 n1 n2 n3 n4 n5 n6 n7 n8 n9 cg; intro bz ah aj HB ai eE eF az aX aA aY; clear hb hbox hg; have eG := aX.out; have eH := az.out; have eI := aY.out; have eJ := aA.out; have ⟨cE, cF, cG, cH⟩ := G.d2 (w := w9) ai; have ⟨cI, cJ, cL, cM⟩ := G.d2 (w := w9) ah))
 go_loopg [13] k (fun kq em w' => ∃ (ab : Int) (ac : List (S53)) (aE : Value), em = .int .i64 ab ∧ Aside0 (impl_Net_tree.l0 kq aa (aa.length : Int) ab ag ac = some (r1, r2)) ∧ Aside0 (kq ≤ k) ∧ Aside0 (Kd.R k53 53 w' w.heap.size (fun _ => True) aE ac) ∧ Aside0 (w'.heap[av]? = some (.cells #[.int .i64 ag, (.slice ax aa.length au)] 30 (0, 0))) ∧ Aside0 (w'.heap[aq]? = some (.cells #[.int .i64 0, (.slice none 0 0)] 30 (0, 0))) ∧ Aside0 (w'.heap[ap]? = some (.cells #[.int .i64 ag, aE] 30 (0, 0))) ∧ Aside0 (Below w.heap.size w w'))
 case atStart => exact ⟨(0), (b1), (.slice dq b1.length dr), (caaI), H', ⟨Nat.le_refl _⟩, ⟨by (with_reducible repeat (first | apply Kd.R_alloc | apply Kd.R_drewN | apply Kd.R_drew)); exact Kd.R_mono (Kd.R_far (p := ⟨ap, 1, none⟩) (Kd.R_far (p := ⟨ap, 0, none⟩) (Kd.R_types bz.out ai.out (by decide)) (fun _ hk => hk.2) (.int .i64 ag)) (fun _ hk => hk.2) (.slice dq b1.length dr)) (fun _ hk => trivial)⟩, ⟨by (with_reducible repeat (first | refine blk_drewN ?_ _ | refine blk_drew ?_ | refine blk_alloc ?_ _)); refine blk_far ?_ az.out _; (with_reducible repeat (first | refine blk_drewN ?_ _ | refine blk_drew ?_ | refine blk_alloc ?_ _)); refine blk_far ?_ az.out _; (with_reducible repeat (first | refine blk_drewN ?_ _ | refine blk_drew ?_ | refine blk_alloc ?_ _)); exact ah.out⟩, ⟨by (with_reducible repeat (first | refine blk_drewN ?_ _ | refine blk_drew ?_ | refine blk_alloc ?_ _)); refine blk_far ?_ aA.out _; (with_reducible repeat (first | refine blk_drewN ?_ _ | refine blk_drew ?_ | refine blk_alloc ?_ _)); refine blk_far ?_ aA.out _; (with_reducible repeat (first | refine blk_drewN ?_ _ | refine blk_drew ?_ | refine blk_alloc ?_ _)); exact aj.out⟩, ⟨by (with_reducible repeat (first | refine blk_drewN ?_ _ | refine blk_drew ?_ | refine blk_alloc ?_ _)); refine blk_put (cs := #[.int .i64 ag, .slice none 0 0]) ?_ 1 _ rfl; (with_reducible repeat (first | refine blk_drewN ?_ _ | refine blk_drew ?_ | refine blk_alloc ?_ _)); refine blk_put (cs := #[.int .i64 0, .slice none 0 0]) ?_ 0 _ rfl; (with_reducible repeat (first | refine blk_drewN ?_ _ | refine blk_drew ?_ | refine blk_alloc ?_ _)); exact ai.out⟩, ⟨G.cB HB.out⟩⟩
 case round =>
  clear H'; (try clear cE cF cI cJ b_ ca cG cH cL cM cd ce); obtain ⟨ab, ac, aE, rfl, HA, bk, af, ah, aj, ai, HB⟩ := hrel; cases gk with
  | zero => exact absurd HA.out (by simp [impl_Net_tree.l0])
  | succ k1 =>
   have H := HA.out; clear HA; simp only [impl_Net_tree.l0] at H
   by_cases bW : ab < (aa.length : Int)
   ·rw [if_pos bW] at H; have df : decide (ab < (aa.length : Int)) = true := decide_eq_true bW; clear bW
    by_cases ct : 0 ≤ ab
    ·rw [if_pos ct] at H; have eK : decide (0 ≤ ab) = true := decide_eq_true ct; clear ct
     by_cases cu : ab < (aa.length : Int)
     ·rw [if_pos cu] at H; have eL : decide (ab < (aa.length : Int)) = true := decide_eq_true cu; clear cu; obtain ⟨bZ, dt, H⟩ := G.bi H; replace H : (if bZ = true then (impl_Net_tree.l0 k1 aa (aa.length : Int) (wrap64 (ab + 1)) ag ac) else (if ac.length < 8796093022208 then (impl_Net_tree.l0 k1 aa (aa.length : Int) (wrap64 (ab + 1)) ag (ac ++ [(⟨(rd_T53 aa ab).f0, (rd_T53 aa ab).f1⟩ : S53)])) else (none))) = some (r1, r2) := H
      by_cases cv : bZ = true
      ·subst cv; have H1 : (impl_Net_tree.l0 k1 aa (aa.length : Int) (wrap64 (ab + 1)) ag ac) = some (r1, r2) := by rw [if_pos rfl] at H; exact H
       clear H; have H := H1; clear H1; have H' := G.m H; clear H; have bl : 0 ≤ (ab : Int) := of_decide_eq_true (G.asm); have bm : ab < (aa.length : Int) := of_decide_eq_true (G.asm); obtain ⟨br, cl, a4, a5⟩ := at_T53 aV.out ab bl bm; cases cl; replace a4 := G.hx HB a4; replace a5 := G.hx HB a5; replace bl := eq_true bl; replace bm := eq_true bm
       go_wp2_with (first | ((with_reducible refine G.h 5 rfl ?_); refine G.be 5 #[.int .i64 0, .int .i64 0] 53 ?_; intro ak hg du hbox hb; have n0 := G.m (Kd.R_below (Kd.R_elderB (G.cR af.out) ak (Nat.le_of_eq hg.symm)) hb); have n1 := G.bb ah hb; have n2 := G.bb aj hb; have n3 := G.bb ai hb; have n4 := G.bs HB hb; have n5 := G.m (hbox); have n6 := G.m (caaH : w.heap.size ≤ ak); have n7 := G.m (caaH : w.heap.size ≤ ak); have n8 := G.m (caaR : av ≠ ak); have n9 := G.m (caaS : ak ≠ av); have cg := G.m (caaM : aq ≠ ak); have cX := G.m (caaL : ak ≠ aq); have cY := G.m ((by rw [hg]; exact Nat.ne_of_lt (blk_lt (g := ap) (o := .cells #[.int .i64 ag, aE] 30 (0, 0)) (G.cb ai.out)) : ap ≠ ak)); have cZ := G.m ((by rw [hg]; exact Nat.ne_of_gt (blk_lt (g := ap) (o := .cells #[.int .i64 ag, aE] 30 (0, 0)) (G.cb ai.out)) : ak ≠ ap)); clear af ah aj ai HB; revert n0 n1 n2 n3 n4 n5 n6 n7 n8 n9 cg cX cY cZ; intro af ah aj ai HB aC dg dh aG a9 aH a_ aI ba; clear hb hbox hg; have eM := a9.out; have eN := aG.out; have eO := a_.out; have eP := aH.out; have eQ := ba.out; have eR := aI.out; have ⟨dF, dG, dH, dI⟩ := G.d2 (w := du) aC; have eS := aX.out; have eT := az.out; have eU := aY.out; have eV := aA.out; have ⟨dJ, dK, dL, dM⟩ := G.d2 (w := du) ai; obtain ⟨cm, b2, dx⟩ := Kd.R_slice af.out; subst dx) | ((with_reducible refine G.f 74 rfl ?_); refine G.gL 22 Try.func74 #[.agg #[.int .i64 ag, .slice cm ac.length b2], .int .i64 ((rd_T53 aa ab).f0), .int .i64 ((rd_T53 aa ab).f1)] ?_; (with_reducible refine (impl_Net_joined.calls k1 ag _ _ ac ((rd_T53 aa ab).f0) ((rd_T53 aa ab).f1) true _ ?side1 ?side2 dt.out).mono ?_); (case side1 => refine (Kd.R_reads' (e := 53) (base := w.heap.size) (ok := fun k_ => (True ∧ k_ ≠ ak)) (n := ac.length) (c := b2) ?_).2.2; exact (caaK)); (case side2 => exact (Kd.R_reads' af.out).2.1); rintro e fw ⟨rfl, hb⟩; refine ⟨_, rfl, ?_⟩; have n0 := G.m (Kd.R_below (caaK) hb); have n1 := G.m (blk_below (g := av) (o := .cells #[.int .i64 ag, .slice (some br) aa.length au] 30 (0, 0)) (caaO) hb); have n2 := G.m (blk_below (g := aq) (o := .cells #[.int .i64 0, .slice none 0 0] 30 (0, 0)) (caaP) hb); have n3 := G.m (blk_below (g := ap) (o := .cells #[.int .i64 ag, .slice cm ac.length b2] 30 (0, 0)) (caaQ) hb); have n4 := G.m (blk_below (g := ak) (o := .cells #[.int .i64 ((rd_T53 aa ab).f0), .int .i64 ((rd_T53 aa ab).f1)] 53 (0, 0)) (caaN) hb); have n5 := G.bs HB hb; clear af ah aj ai aC HB; revert n0 n1 n2 n3 n4 n5; intro af ah aj ai aC HB; (try clear hb)))
       go_roundg k1
       case measure => have := bk.out; omega
       case rel => exact ⟨(wrap64 (ab + 1)), (ac), (.slice cm ac.length b2), (caaI), H', ⟨by have := bk.out; omega⟩, ⟨by (with_reducible repeat (first | apply Kd.R_alloc | apply Kd.R_drewN | apply Kd.R_drew)); exact Kd.R_mono af.out (fun _ hk => trivial)⟩, ⟨G.cb ah.out⟩, ⟨G.cb aj.out⟩, ⟨G.cb ai.out⟩, ⟨G.cB HB.out⟩⟩
      ·replace cv := Bool.eq_false_iff.mpr cv; subst cv; have H1 : (if ac.length < 8796093022208 then (impl_Net_tree.l0 k1 aa (aa.length : Int) (wrap64 (ab + 1)) ag (ac ++ [(⟨(rd_T53 aa ab).f0, (rd_T53 aa ab).f1⟩ : S53)])) else (none)) = some (r1, r2) := by rw [if_neg (show ¬ (false = true) by decide)] at H; exact H
       clear H; have H := H1; clear H1
       by_cases cw : ac.length < 8796093022208
       ·rw [if_pos cw] at H; have di := G.m cw; clear cw; obtain ⟨b3, bA⟩ : ∃ y_ : List (S53), y_ = (ac ++ [(⟨(rd_T53 aa ab).f0, (rd_T53 aa ab).f1⟩ : S53)]) := ⟨_, rfl⟩; replace H : (impl_Net_tree.l0 k1 aa (aa.length : Int) (wrap64 (ab + 1)) ag b3) = some (r1, r2) := by first | (rw [bA]; with_reducible exact H) | (have bO := (Option.bind_some _ _).symm.trans H; rw [bA]; with_reducible exact bO) | (have bO := (Option.bind_some _ _).symm.trans H; with_reducible exact bO) | with_reducible exact H | (rw [bA]; exact H) | exact H
        have dj := G.m bA; clear bA; have H' := G.m H; clear H; have bl : 0 ≤ (ab : Int) := of_decide_eq_true (G.asm); have bm : ab < (aa.length : Int) := of_decide_eq_true (G.asm); obtain ⟨br, cl, a4, a5⟩ := at_T53 aV.out ab bl bm; cases cl; replace a4 := G.hx HB a4; replace a5 := G.hx HB a5; replace bl := eq_true bl; replace bm := eq_true bm
        go_wp2_with (first | ((with_reducible refine G.h 5 rfl ?_); refine G.be 5 #[.int .i64 0, .int .i64 0] 53 ?_; intro ak hg dv hbox hb; have n0 := G.m (Kd.R_below (Kd.R_elderB (G.cR af.out) ak (Nat.le_of_eq hg.symm)) hb); have n1 := G.bb ah hb; have n2 := G.bb aj hb; have n3 := G.bb ai hb; have n4 := G.bs HB hb; have n5 := G.m (hbox); have n6 := G.m (caaH : w.heap.size ≤ ak); have n7 := G.m (caaH : w.heap.size ≤ ak); have n8 := G.m (caaR : av ≠ ak); have n9 := G.m (caaS : ak ≠ av); have cg := G.m (caaM : aq ≠ ak); have cX := G.m (caaL : ak ≠ aq); have cY := G.m ((by rw [hg]; exact Nat.ne_of_lt (blk_lt (g := ap) (o := .cells #[.int .i64 ag, aE] 30 (0, 0)) (G.cb ai.out)) : ap ≠ ak)); have cZ := G.m ((by rw [hg]; exact Nat.ne_of_gt (blk_lt (g := ap) (o := .cells #[.int .i64 ag, aE] 30 (0, 0)) (G.cb ai.out)) : ak ≠ ap)); clear af ah aj ai HB; revert n0 n1 n2 n3 n4 n5 n6 n7 n8 n9 cg cX cY cZ; intro af ah aj ai HB aC dg dh aG a9 aH a_ aI ba; clear hb hbox hg; have eW := a9.out; have eX := aG.out; have eY := a_.out; have eZ := aH.out; have e2 := ba.out; have e3 := aI.out; have ⟨dN, dO, dP, dQ⟩ := G.d2 (w := dv) aC; have e4 := aX.out; have e5 := az.out; have e6 := aY.out; have e7 := aA.out; have ⟨dR, dS, dT, dU⟩ := G.d2 (w := dv) ai; obtain ⟨b4, bP, dy⟩ := Kd.R_slice af.out; subst dy) | ((with_reducible refine G.f 74 rfl ?_); refine G.gL 22 Try.func74 #[.agg #[.int .i64 ag, .slice b4 ac.length bP], .int .i64 ((rd_T53 aa ab).f0), .int .i64 ((rd_T53 aa ab).f1)] ?_; (with_reducible refine (impl_Net_joined.calls k1 ag _ _ ac ((rd_T53 aa ab).f0) ((rd_T53 aa ab).f1) false _ ?side1 ?side2 dt.out).mono ?_); (case side1 => refine (Kd.R_reads' (e := 53) (base := w.heap.size) (ok := fun k_ => (True ∧ k_ ≠ ak)) (n := ac.length) (c := bP) ?_).2.2; exact (caaK)); (case side2 => exact (Kd.R_reads' af.out).2.1); rintro e dw ⟨rfl, hb⟩; refine ⟨_, rfl, ?_⟩; have n0 := G.m (Kd.R_below (caaK) hb); have n1 := G.m (blk_below (g := av) (o := .cells #[.int .i64 ag, .slice (some br) aa.length au] 30 (0, 0)) (caaO) hb); have n2 := G.m (blk_below (g := aq) (o := .cells #[.int .i64 0, .slice none 0 0] 30 (0, 0)) (caaP) hb); have n3 := G.m (blk_below (g := ap) (o := .cells #[.int .i64 ag, .slice b4 ac.length bP] 30 (0, 0)) (caaQ) hb); have n4 := G.m (blk_below (g := ak) (o := .cells #[.int .i64 ((rd_T53 aa ab).f0), .int .i64 ((rd_T53 aa ab).f1)] 53 (0, 0)) (caaN) hb); have n5 := G.bs HB hb; clear af ah aj ai aC HB; revert n0 n1 n2 n3 n4 n5; intro af ah aj ai aC HB; (try clear hb); have ⟨dV, dW, dX, dY⟩ := G.d2 (w := dw) ai; have ⟨dZ, d7, d8, d9⟩ := G.d2 (w := dw) aC) | ((with_reducible refine gate_builtin (b := .append) (xs := #[.tmp 25, .tmp 27]) rfl ?_); at_builtin; refine Kd.R_append k53 (w0 := w) w.heap.size rfl (.tmp 25) (.tmp 27) 28 53 (.agg #[(.int .i64 0), (.int .i64 0)]) 16 rfl Try.underlying28 info53 rfl (by decide) (by omega) (.slice b4 ac.length bP) ac (⟨(rd_T53 aa ab).f0, (rd_T53 aa ab).f1⟩ : S53) [.int .i64 ((rd_T53 aa ab).f0), .int .i64 ((rd_T53 aa ab).f1)] (fun k_ => k_ ≠ ak) (fun _ => False) rfl rfl ?aP (fun _ hk => hk.elim) ?aF ?aO ?aB ?aS ?aL ?_; (case aP => exact k53_mkM _ _ _ (⟨(rd_T53 aa ab).f0, (rd_T53 aa ab).f1⟩ : S53)); (case aB => exact (G.cB HB.out)); (case aF => exact (fun k_ hk => Kd.freshB (g := ak) (o := .cells #[.int .i64 ((rd_T53 aa ab).f0), .int .i64 ((rd_T53 aa ab).f1)] 53 (0, 0)) (G.cb aC.out) k_ hk)); (case aO => exact (by (with_reducible repeat (first | apply Kd.R_alloc | apply Kd.R_drewN | apply Kd.R_drew)); exact Kd.R_mono af.out (fun _ hk => hk.2))); (case aS => exact (below_size (G.cB HB.out))); (case aL => have := di.out; omega); intro fu en ho hb hg hat; rw [← dj.out] at ho; have n0 := G.bg ah hg (Kd.R_ne af.out ah.out (by decide)); have n1 := G.bg aj hg (Kd.R_ne af.out aj.out (by decide)); have n2 := G.bg ai hg (Kd.R_ne af.out ai.out (by decide)); have n3 := G.bg aC hg (Kd.R_away af.out (fun _ hk => hk.2)); have n4 := G.m (hb); have n5 := G.m (ho); clear ah aj ai aC HB af; revert n0 n1 n2 n3 n4 n5; intro ah aj ai aC HB cx; clear ho hb hg hat; obtain ⟨c_, da, dz⟩ := Kd.R_slice cx.out; subst dz; have ⟨d_, ea, eb, ec⟩ := G.d2 (w := en) ai))
        go_roundg k1
        case measure => have := bk.out; omega
        case rel => exact ⟨(wrap64 (ab + 1)), (b3), (.slice c_ b3.length da), (caaI), H', ⟨by have := bk.out; omega⟩, ⟨by (with_reducible repeat (first | apply Kd.R_alloc | apply Kd.R_drewN | apply Kd.R_drew)); exact Kd.R_mono (Kd.R_far (p := ⟨ap, 1, none⟩) (Kd.R_types cx.out ai.out (by decide)) (fun _ hk => hk.2) (.slice c_ b3.length da)) (fun _ hk => trivial)⟩, ⟨by (with_reducible repeat (first | refine blk_drewN ?_ _ | refine blk_drew ?_ | refine blk_alloc ?_ _)); refine blk_far ?_ az.out _; (with_reducible repeat (first | refine blk_drewN ?_ _ | refine blk_drew ?_ | refine blk_alloc ?_ _)); exact ah.out⟩, ⟨by (with_reducible repeat (first | refine blk_drewN ?_ _ | refine blk_drew ?_ | refine blk_alloc ?_ _)); refine blk_far ?_ aA.out _; (with_reducible repeat (first | refine blk_drewN ?_ _ | refine blk_drew ?_ | refine blk_alloc ?_ _)); exact aj.out⟩, ⟨by (with_reducible repeat (first | refine blk_drewN ?_ _ | refine blk_drew ?_ | refine blk_alloc ?_ _)); refine blk_put (cs := #[.int .i64 ag, .slice b4 ac.length bP]) ?_ 1 _ rfl; (with_reducible repeat (first | refine blk_drewN ?_ _ | refine blk_drew ?_ | refine blk_alloc ?_ _)); exact ai.out⟩, ⟨G.cB HB.out⟩⟩
       ·rw [if_neg cw] at H; exact absurd H (by simp)
     ·rw [if_neg cu] at H; exact absurd H (by simp)
    ·rw [if_neg ct] at H; exact absurd H (by simp)
   ·rw [if_neg bW] at H; have df : decide (ab < (aa.length : Int)) = false := decide_eq_false bW; clear bW; simp only [Option.some.injEq, Prod.mk.injEq] at H; obtain ⟨rfl, rfl⟩ := H; have e8 := aX.out; have e9 := az.out; have fa := aY.out; have fb := aA.out; have ⟨ed, ee, ef, eg⟩ := G.d2 (w := wr) ai; have fc := bH.out; have fd := bG.out; have ⟨eh, ei, ej, ek⟩ := G.d2 (w := wr) aj; obtain ⟨db, dc, dA⟩ := Kd.R_slice af.out; subst dA
    go_wp2; refine bodyPost_ret (results_cell_row rfl _ _ aq 30 #[.int .i64 ag, .slice db ac.length dc] (0, 0) _ rfl (by (with_reducible repeat (first | refine blk_drewN ?_ _ | refine blk_drew ?_ | refine blk_alloc ?_ _)); refine blk_put (cs := #[.int .i64 ag, .slice none 0 0]) ?_ 1 _ rfl; (with_reducible repeat (first | refine blk_drewN ?_ _ | refine blk_drew ?_ | refine blk_alloc ?_ _)); refine blk_put (cs := #[.int .i64 0, .slice none 0 0]) ?_ 0 _ rfl; (with_reducible repeat (first | refine blk_drewN ?_ _ | refine blk_drew ?_ | refine blk_alloc ?_ _)); exact aj.out) Try.underlying30 rfl (by kernel_rfl)) rfl ?_; exact ⟨_, by first | rfl | (simp [errW_none, errW_some] <;> rfl) | (simp [*, errW_none, errW_some] <;> rfl), by (with_reducible repeat (first | apply Kd.R_alloc | apply Kd.R_drewN | apply Kd.R_drew)); exact Kd.R_mono (Kd.R_far (p := ⟨aq, 1, none⟩) (Kd.R_far (p := ⟨aq, 0, none⟩) (Kd.R_types af.out aj.out (by decide)) (fun _ hk => hk.2) (.int .i64 ag)) (fun _ hk => hk.2) (.slice db ac.length dc)) (fun _ hk => trivial), G.cB HB.out⟩
def impl_tie.f (a0 : Int) (a1 : Int) : Option (Int × Int) := some (mn a0 a1, mx a0 a1)
set_option maxHeartbeats 8000000 in
set_option maxRecDepth 100000 in
theorem impl_tie.calls (a0 : Int) (a1 : Int) (r1 : Int) (r2 : Int) (w : World) (h : impl_tie.f a0 a1 = some (r1, r2)) :
  Calls Try.prog 66 #[.int .i64 a0, .int .i64 a1] w fun e w' => e = .returned (.agg #[.int .i64 r1, .int .i64 r2]) ∧ Below w.heap.size w w' := by
 have ck := Try.underlying53; have HB := G.m (Below.refl w.heap.size w); have H : (some (mn a0 a1, mx a0 a1)) = some (r1, r2) := h; clear h; obtain ⟨ch, b5⟩ : ∃ j_ : Int, (mn a0 a1) = j_ := ⟨_, rfl⟩; replace H : (some (ch, mx a0 a1)) = some (r1, r2) := by first | (rw [b5] at H; exact H) | (simp only [b5] at H ⊢; exact H)
 have fe : (if a1 < a0 then a1 else a0) = ch := b5; obtain ⟨dd, b6⟩ : ∃ j_ : Int, (mx a0 a1) = j_ := ⟨_, rfl⟩; replace H : (some (ch, dd)) = some (r1, r2) := by first | (rw [b6] at H; exact H) | (simp only [b6] at H ⊢; exact H)
 have ff : (if a0 < a1 then a1 else a0) = dd := b6; simp only [Option.some.injEq, Prod.mk.injEq] at H; obtain ⟨rfl, rfl⟩ := H
 go_enter Try.func66, Try.ntmps66
 go_wp2_with (first | ((with_reducible refine G.h 4 rfl ?_); refine G.be 4 #[.int .i64 0, .int .i64 0] 53 ?_; intro b7 hg w5 hbox hb; have n0 := G.bs HB hb; have n1 := G.m (hbox); have n2 := G.m (caaH : w.heap.size ≤ b7); have n3 := G.m (caaH : w.heap.size ≤ b7); clear HB; revert n0 n1 n2 n3; intro HB cy fg fh; clear hb hbox hg; have ⟨eo, ep, eq, er⟩ := G.d2 (w := w5) cy))
 refine bodyPost_ret (results_cell_row rfl _ _ b7 53 #[.int .i64 ch, .int .i64 dd] (0, 0) _ rfl (by (with_reducible repeat (first | refine blk_drewN ?_ _ | refine blk_drew ?_ | refine blk_alloc ?_ _)); refine blk_put (cs := #[.int .i64 ch, .int .i64 0]) ?_ 1 _ rfl; (with_reducible repeat (first | refine blk_drewN ?_ _ | refine blk_drew ?_ | refine blk_alloc ?_ _)); refine blk_put (cs := #[.int .i64 0, .int .i64 0]) ?_ 0 _ rfl; (with_reducible repeat (first | refine blk_drewN ?_ _ | refine blk_drew ?_ | refine blk_alloc ?_ _)); exact cy.out) Try.underlying53 rfl (by kernel_rfl)) rfl ?_; exact ⟨by first | rfl | (simp [errW_none, errW_some] <;> rfl) | (simp only [← b5, ← b6]; first | rfl | (simp [errW_none, errW_some] <;> rfl)) | (simp [*, errW_none, errW_some] <;> rfl), G.cB HB.out⟩
def slices_Index_impl_Tie_impl_Tie.l0 : Nat → List (S53) → Int → Int → Int → Int → Option (Int)
 | 0, _, _, _, _, _ => none
 | k + 1, x0, x7, x8, bX, bY => if x8 < x7 then (if 0 ≤ x8 then (if x8 < (x0.length : Int) then (if (bX == ((rd_T53 x0 x8).f0) && (bY == ((rd_T53 x0 x8).f1))) = true then (some x8) else (slices_Index_impl_Tie_impl_Tie.l0 k x0 x7 (wrap64 (x8 + 1)) bX bY)) else (none)) else (none)) else (some (-1))
def slices_Index_impl_Tie_impl_Tie.f (k : Nat) (l0 : List (S53)) (am : Int) (ao : Int) : Option (Int) := slices_Index_impl_Tie_impl_Tie.l0 k l0 (l0.length : Int) 0 am ao
set_option maxHeartbeats 8000000 in
set_option maxRecDepth 100000 in
theorem slices_Index_impl_Tie_impl_Tie.calls (k : Nat) (A0 : Option Addr) (c0 : Nat) (l0 : List (S53)) (am : Int) (ao : Int) (r : Int) (w : World) (bc : Kd.C k53 w A0 l0.length l0) (bd : l0.length ≤ c0) (h : slices_Index_impl_Tie_impl_Tie.f k l0 am ao = some r) :
  Calls Try.prog 96 #[.slice A0 l0.length c0, .agg #[.int .i64 am, .int .i64 ao]] w fun e w' => e = .returned (.int .i64 r) ∧ Below w.heap.size w w' := by
 have ck := Try.underlying53; have bB := G.m bc; have ci := G.m bd; clear bc bd; have HB := G.m (Below.refl w.heap.size w); have H : (slices_Index_impl_Tie_impl_Tie.l0 k l0 (l0.length : Int) 0 am ao) = some r := h; clear h; have H' := G.m H; clear H
 go_enter Try.func96, Try.ntmps96
 go_wp2_with (first | ((with_reducible refine G.h 3 rfl ?_); refine G.be 3 #[.int .i64 am, .int .i64 ao] 53 ?_; intro aK hg w3 hbox hb; have n0 := G.bs HB hb; have n1 := G.m (hbox); have n2 := G.m (caaH : w.heap.size ≤ aK); have n3 := G.m (caaH : w.heap.size ≤ aK); clear HB; revert n0 n1 n2 n3; intro HB a8 cz cA; clear hb hbox hg))
 repeat (go_quiet (first | ((with_reducible refine G.h 3 rfl ?_); refine G.be 3 #[.int .i64 am, .int .i64 ao] 53 ?_; intro aK hg w3 hbox hb; have n0 := G.bs HB hb; have n1 := G.m (hbox); have n2 := G.m (caaH : w.heap.size ≤ aK); have n3 := G.m (caaH : w.heap.size ≤ aK); clear HB; revert n0 n1 n2 n3; intro HB a8 cz cA; clear hb hbox hg)); try go_wp2_with (first | ((with_reducible refine G.h 3 rfl ?_); refine G.be 3 #[.int .i64 am, .int .i64 ao] 53 ?_; intro aK hg w3 hbox hb; have n0 := G.bs HB hb; have n1 := G.m (hbox); have n2 := G.m (caaH : w.heap.size ≤ aK); have n3 := G.m (caaH : w.heap.size ≤ aK); clear HB; revert n0 n1 n2 n3; intro HB a8 cz cA; clear hb hbox hg)))
 go_loopg [8] k (fun kq v8 w' => ∃ (ae : Int), v8 = .int .i64 ae ∧ Aside0 (slices_Index_impl_Tie_impl_Tie.l0 kq l0 (l0.length : Int) ae am ao = some r) ∧ Aside0 (kq ≤ k) ∧ Aside0 (w'.heap[aK]? = some (.cells #[.int .i64 am, .int .i64 ao] 53 (0, 0))) ∧ Aside0 (Below w.heap.size w w'))
 case atStart => exact ⟨(0), (caaI), H', ⟨Nat.le_refl _⟩, ⟨G.cb a8.out⟩, ⟨G.cB HB.out⟩⟩
 case round =>
  clear H'; try clear p2
  obtain ⟨ae, rfl, HA, bk, a8, HB⟩ := hrel; cases gk with
  | zero => exact absurd HA.out (by simp [slices_Index_impl_Tie_impl_Tie.l0])
  | succ k1 =>
   have H := HA.out; clear HA; simp only [slices_Index_impl_Tie_impl_Tie.l0] at H
   by_cases c4 : ae < (l0.length : Int)
   ·rw [if_pos c4] at H; have de : decide (ae < (l0.length : Int)) = true := decide_eq_true c4; clear c4
    by_cases c5 : 0 ≤ ae
    ·rw [if_pos c5] at H; have cP : decide (0 ≤ ae) = true := decide_eq_true c5; clear c5
     by_cases c6 : ae < (l0.length : Int)
     ·rw [if_pos c6] at H; have cj : decide (ae < (l0.length : Int)) = true := decide_eq_true c6; clear c6
      by_cases c7 : (am == ((rd_T53 l0 ae).f0) && (ao == ((rd_T53 l0 ae).f1))) = true
      ·rw [if_pos c7] at H; have cQ : (am == ((rd_T53 l0 ae).f0) && (ao == ((rd_T53 l0 ae).f1))) = true := c7; (try (have dB : decide (am = ((rd_T53 l0 ae).f0) && (ao == ((rd_T53 l0 ae).f1))) = true := by simpa using c7)); (try (have dC : (am == ((rd_T53 l0 ae).f0) && (ao == ((rd_T53 l0 ae).f1))) = true := by simpa using c7)); clear c7; obtain rfl := Option.some.inj H; have ⟨es, et, eu, ev⟩ := G.d2 (w := wr) a8; have bn : 0 ≤ (ae : Int) := of_decide_eq_true (G.asm); have bo : ae < (l0.length : Int) := of_decide_eq_true (G.asm); obtain ⟨dk, cn, a6, a7⟩ := at_T53 bB.out ae bn bo; cases cn; replace a6 := G.hx HB a6; replace a7 := G.hx HB a7; replace bn := eq_true bn; replace bo := eq_true bo
       go_wp2
       repeat (go_quiet (fail); try go_wp2)
       go_ret
       exact ⟨caaJ, G.cB HB.out⟩
      ·rw [if_neg c7] at H; have cQ : (am == ((rd_T53 l0 ae).f0) && (ao == ((rd_T53 l0 ae).f1))) = false := by simpa using c7
       (try (have dB : decide (am = ((rd_T53 l0 ae).f0) && (ao == ((rd_T53 l0 ae).f1))) = false := by simpa using c7)); (try (have dC : (am == ((rd_T53 l0 ae).f0) && (ao == ((rd_T53 l0 ae).f1))) = false := by simpa using c7)); (try (have fv : ¬ (am = ((rd_T53 l0 ae).f0) && (ao == ((rd_T53 l0 ae).f1))) := by simpa using c7)); clear c7; have H' := G.m H; clear H; have ⟨ew, ex, ey, ez⟩ := G.d2 (w := wr) a8; have bn : 0 ≤ (ae : Int) := of_decide_eq_true (G.asm); have bo : ae < (l0.length : Int) := of_decide_eq_true (G.asm); obtain ⟨dk, cn, a6, a7⟩ := at_T53 bB.out ae bn bo; cases cn; replace a6 := G.hx HB a6; replace a7 := G.hx HB a7; replace bn := eq_true bn; replace bo := eq_true bo
       go_wp2
       repeat (go_quiet (fail); try go_wp2)
       go_roundg k1
       case measure => have := bk.out; omega
       case rel => exact ⟨(wrap64 (ae + 1)), (caaI), H', ⟨by have := bk.out; omega⟩, ⟨G.cb a8.out⟩, ⟨G.cB HB.out⟩⟩
     ·rw [if_neg c6] at H; exact absurd H (by simp)
    ·rw [if_neg c5] at H; exact absurd H (by simp)
   ·rw [if_neg c4] at H; have de : decide (ae < (l0.length : Int)) = false := decide_eq_false c4; clear c4; obtain rfl := Option.some.inj H
    go_wp2
    repeat (go_quiet (fail); try go_wp2)
    go_ret
    exact ⟨caaJ, G.cB HB.out⟩
def slices_Contains_impl_Tie_impl_Tie.f (k : Nat) (l0 : List (S53)) (am : Int) (ao : Int) : Option (Bool) := (slices_Index_impl_Tie_impl_Tie.f k l0 am ao).bind fun bD => (some (decide (bD ≥ 0)))
set_option maxHeartbeats 8000000 in
set_option maxRecDepth 100000 in
theorem slices_Contains_impl_Tie_impl_Tie.calls (k : Nat) (A0 : Option Addr) (c0 : Nat) (l0 : List (S53)) (am : Int) (ao : Int) (r : Bool) (w : World) (bc : Kd.C k53 w A0 l0.length l0) (bd : l0.length ≤ c0) (h : slices_Contains_impl_Tie_impl_Tie.f k l0 am ao = some r) :
  Calls Try.prog 83 #[.slice A0 l0.length c0, .agg #[.int .i64 am, .int .i64 ao]] w fun e w' => e = .returned (.bool r) ∧ Below w.heap.size w w' := by
 have ck := Try.underlying53; have bB := G.m bc; have ci := G.m bd; clear bc bd; have HB := G.m (Below.refl w.heap.size w); have H : ((slices_Index_impl_Tie_impl_Tie.f k l0 am ao).bind fun bD => (some (decide (bD ≥ 0)))) = some r := h; clear h; obtain ⟨bD, A3, H⟩ := G.bi H; replace H : (some (decide (bD ≥ 0))) = some r := H; obtain rfl := Option.some.inj H
 go_enter Try.func83, Try.ntmps83
 go_wp2_with (first | ((with_reducible refine G.h 3 rfl ?_); refine G.be 3 #[.int .i64 am, .int .i64 ao] 53 ?_; intro cD hg w4 hbox hb; have n0 := G.bs HB hb; have n1 := G.m (hbox); have n2 := G.m (caaH : w.heap.size ≤ cD); have n3 := G.m (caaH : w.heap.size ≤ cD); clear HB; revert n0 n1 n2 n3; intro HB bI fi fj; clear hb hbox hg; have ⟨b_, ca, cd, ce⟩ := G.d2 (w := w4) bI) | ((with_reducible refine G.f 96 rfl ?_); refine G.gL 7 Try.func96 #[.slice A0 l0.length c0, .agg #[.int .i64 am, .int .i64 ao]] ?_; (with_reducible refine (slices_Index_impl_Tie_impl_Tie.calls k _ _ l0 am ao bD _ ?side1 ?side2 A3.out).mono ?_); (case side1 => exact G.cC (Kd.C_below bB.out HB.out)); (case side2 => exact ci.out); rintro e w6 ⟨rfl, hb⟩; refine ⟨_, rfl, ?_⟩; have n0 := G.bb bI hb; have n1 := G.bs HB hb; clear bI HB; revert n0 n1; intro bI HB; (try clear hb)))
 go_ret
 exact ⟨caaJ, G.cB HB.out⟩
def impl_Net_has.f (k : Nat) (ag : Int) (aa : List (S53)) (a1 : Int) (a2 : Int) : Option (Bool) := (impl_tie.f a1 a2).bind fun bC => ((slices_Contains_impl_Tie_impl_Tie.f k aa bC.1 bC.2).bind fun bf => (some bf))
set_option maxHeartbeats 8000000 in
set_option maxRecDepth 100000 in
theorem impl_Net_has.calls (k : Nat) (ag : Int) (ax : Option Addr) (au : Nat) (aa : List (S53)) (a1 : Int) (a2 : Int) (r : Bool) (w : World) (aT : Kd.C k53 w ax aa.length aa) (aU : aa.length ≤ au) (h : impl_Net_has.f k ag aa a1 a2 = some r) :
  Calls Try.prog 63 #[.agg #[.int .i64 ag, .slice ax aa.length au], .int .i64 a1, .int .i64 a2] w fun e w' => e = .returned (.bool r) ∧ Below w.heap.size w w' := by
 have cO := Try.underlying30; have aV := G.m aT; have bh := G.m aU; clear aT aU; have HB := G.m (Below.refl w.heap.size w); have H : ((impl_tie.f a1 a2).bind fun bC => ((slices_Contains_impl_Tie_impl_Tie.f k aa bC.1 bC.2).bind fun bf => (some bf))) = some r := h; clear h; obtain ⟨⟨b8, b9⟩, A4, H⟩ := G.bi H; replace H : ((slices_Contains_impl_Tie_impl_Tie.f k aa b8 b9).bind fun bf => (some bf)) = some r := H; obtain ⟨bf, A5, H⟩ := G.bi H; replace H : (some bf) = some r := H; obtain rfl := Option.some.inj H
 go_enter Try.func63, Try.ntmps63; try go_wp2_with (first | ((with_reducible refine G.h 3 rfl ?_); refine G.be 3 #[.int .i64 ag, .slice ax aa.length au] 30 ?_; intro bJ hg w6 hbox hb; have n0 := G.bs HB hb; have n1 := G.m (hbox); have n2 := G.m (caaH : w.heap.size ≤ bJ); have n3 := G.m (caaH : w.heap.size ≤ bJ); clear HB; revert n0 n1 n2 n3; intro HB aw fk fm; clear hb hbox hg))
 have n0 := G.m (blk_drew aw.out); have n1 := G.m (below_drew1 HB.out); clear aw HB; revert n0 n1; intro aw HB; refine start_ (n := 7) (S := fun w' => w'.cell? ⟨bJ, 0, none⟩ = some (.int .i64 ag) ∧ w'.cell? ⟨bJ, 1, none⟩ = some (.slice ax aa.length au)) (ds := []) (G.fl 7 0) (by kernel_rfl) rfl (by kernel_rfl) ⟨G.z aw 0, G.z aw 1⟩ (fun hHeld => ?_); generalize w6.drew = w7 at aw HB hHeld ⊢; refine G.pu 0 7 1 ?_; refine G.pu 2 9 5 ?_; refine G.pu 3 10 13 ?_; refine G.ta2 1 8 15 ?_; refine one_ (i := 4) (N := some 11) (G.fl 7 31) rfl rfl (by kernel_rfl) (by decide) (fun K hK => ?_); refine G.gs Try.func66 #[.int .i64 a1, .int .i64 a2] ?_; with_reducible refine (impl_tie.calls a1 a2 b8 b9 _ A4.out).mono ?_
 rintro e w8 ⟨rfl, hb⟩; refine ⟨_, rfl, ?_⟩; have n0 := G.bb aw hb; have n1 := G.bs HB hb; clear aw HB; revert n0 n1; intro aw HB; (try clear hb); refine hK.out _ _ ⟨G.z aw 0, G.z aw 1⟩ (fun hHeld => ?_); clear hK K; refine G.no 11 ?_; refine one_ (i := 5) (N := some 12) (G.fl 7 63) rfl rfl (by kernel_rfl) (by decide) (fun K hK => ?_); refine G.gs Try.func83 #[.slice ax aa.length au, .agg #[.int .i64 b8, .int .i64 b9]] ?_; with_reducible refine (slices_Contains_impl_Tie_impl_Tie.calls k _ _ aa b8 b9 bf _ ?side1 ?side2 A5.out).mono ?_
 (case side1 => exact G.cC (Kd.C_below aV.out HB.out)); (case side2 => exact bh.out); rintro e w9 ⟨rfl, hb⟩; refine ⟨_, rfl, ?_⟩; have n0 := G.bb aw hb; have n1 := G.bs HB hb; clear aw HB; revert n0 n1; intro aw HB; (try clear hb); refine hK.out _ _ ⟨G.z aw 0, G.z aw 1⟩ (fun hHeld => ?_); clear hK K; refine G.no 12 ?_; refine G.pu 6 6 127 ?_; refine done_ (by kernel_rfl) ?_; try go_wp2
 go_ret
 exact ⟨caaJ, G.cB HB.out⟩
def slices_Index_int_int.l0 : Nat → List Int → Int → Int → Int → Option (Int)
 | 0, _, _, _, _ => none
 | k + 1, x0, x1, x7, x8 => if x8 < x7 then (if 0 ≤ x8 then (if x8 < (x0.length : Int) then (if x1 = (rd x0 x8) then (some x8) else (slices_Index_int_int.l0 k x0 x1 x7 (wrap64 (x8 + 1)))) else (none)) else (none)) else (some (-1))
def slices_Index_int_int.f (k : Nat) (l0 : List Int) (a1 : Int) : Option (Int) := slices_Index_int_int.l0 k l0 a1 (l0.length : Int) 0
set_option maxHeartbeats 8000000 in
set_option maxRecDepth 100000 in
theorem slices_Index_int_int.calls (k : Nat) (A0 : Option Addr) (c0 : Nat) (l0 : List Int) (a1 : Int) (r : Int) (w : World) (bc : Kd.C (Kd.int .i64) w A0 l0.length l0) (bd : l0.length ≤ c0) (h : slices_Index_int_int.f k l0 a1 = some r) :
  Calls Try.prog 95 #[.slice A0 l0.length c0, .int .i64 a1] w fun e w' => e = .returned (.int .i64 r) ∧ Drawn0 w w' := by
 have bB := G.m bc; have ci := G.m bd; clear bc bd; have H : (slices_Index_int_int.l0 k l0 a1 (l0.length : Int) 0) = some r := h; clear h; have H' := G.m H; clear H
 go_enter Try.func95, Try.ntmps95
 go_wp2
 go_loopg [8] k (fun kq v8 w' => ∃ (ae : Int), v8 = .int .i64 ae ∧ Aside0 (slices_Index_int_int.l0 kq l0 a1 (l0.length : Int) ae = some r) ∧ Aside0 (kq ≤ k) ∧ Drawn0 w w')
 case atStart => exact ⟨(0), (caaI), H', ⟨Nat.le_refl _⟩, by repeat (first | exact Drawn0.refl _ | apply Drawn0.step)⟩
 case round =>
  clear H'; try clear p2
  obtain ⟨ae, rfl, HA, bk, ⟨m1, rfl⟩⟩ := hrel; cases gk with
  | zero => exact absurd HA.out (by simp [slices_Index_int_int.l0])
  | succ k1 =>
   have H := HA.out; clear HA; simp only [slices_Index_int_int.l0] at H
   by_cases c3 : ae < (l0.length : Int)
   ·rw [if_pos c3] at H; have dD : decide (ae < (l0.length : Int)) = true := decide_eq_true c3; clear c3
    by_cases c4 : 0 ≤ ae
    ·rw [if_pos c4] at H; have de : decide (0 ≤ ae) = true := decide_eq_true c4; clear c4
     by_cases c5 : ae < (l0.length : Int)
     ·rw [if_pos c5] at H; have cP : decide (ae < (l0.length : Int)) = true := decide_eq_true c5; clear c5
      by_cases c6 : a1 = (rd l0 ae)
      ·rw [if_pos c6] at H; have cj : (a1 == (rd l0 ae)) = true := beq_iff_eq.mpr c6; have dE : (a1 != (rd l0 ae)) = false := bne_eq_false_iff_eq.mpr c6; clear c6; obtain rfl := Option.some.inj H; have bp : 0 ≤ (ae : Int) := of_decide_eq_true (G.asm); have bq : ae < (l0.length : Int) := of_decide_eq_true (G.asm); obtain ⟨dl, co, cN⟩ := Kd.at_int bB.out ae bp bq; cases co; replace bp := eq_true bp; replace bq := eq_true bq
       go_wp2
       go_ret
       exact ⟨caaI, by repeat (first | exact Drawn0.refl _ | apply Drawn0.step)⟩
      ·rw [if_neg c6] at H; have cj : (a1 == (rd l0 ae)) = false := beq_eq_false_iff_ne.mpr c6; have dE : (a1 != (rd l0 ae)) = true := bne_iff_ne.mpr c6; have H' := G.m H; clear H; have bp : 0 ≤ (ae : Int) := of_decide_eq_true (G.asm); have bq : ae < (l0.length : Int) := of_decide_eq_true (G.asm); obtain ⟨dl, co, cN⟩ := Kd.at_int bB.out ae bp bq; cases co; replace bp := eq_true bp; replace bq := eq_true bq
       go_wp2
       go_roundg k1
       case measure => have := bk.out; omega
       case rel => exact ⟨(wrap64 (ae + 1)), (caaI), H', ⟨by have := bk.out; omega⟩, by repeat (first | exact Drawn0.refl _ | apply Drawn0.step)⟩
     ·rw [if_neg c5] at H; exact absurd H (by simp)
    ·rw [if_neg c4] at H; exact absurd H (by simp)
   ·rw [if_neg c3] at H; have dD : decide (ae < (l0.length : Int)) = false := decide_eq_false c3; clear c3; obtain rfl := Option.some.inj H
    go_wp2
    go_ret
    exact ⟨caaI, by repeat (first | exact Drawn0.refl _ | apply Drawn0.step)⟩
def slices_Contains_int_int.f (k : Nat) (l0 : List Int) (a1 : Int) : Option (Bool) := (slices_Index_int_int.f k l0 a1).bind fun bE => (some (decide (bE ≥ 0)))
set_option maxHeartbeats 8000000 in
set_option maxRecDepth 100000 in
theorem slices_Contains_int_int.calls (k : Nat) (A0 : Option Addr) (c0 : Nat) (l0 : List Int) (a1 : Int) (r : Bool) (w : World) (bc : Kd.C (Kd.int .i64) w A0 l0.length l0) (bd : l0.length ≤ c0) (h : slices_Contains_int_int.f k l0 a1 = some r) :
  Calls Try.prog 82 #[.slice A0 l0.length c0, .int .i64 a1] w fun e w' => e = .returned (.bool r) ∧ Drawn0 w w' := by
 have bB := G.m bc; have ci := G.m bd; clear bc bd; have H : ((slices_Index_int_int.f k l0 a1).bind fun bE => (some (decide (bE ≥ 0)))) = some r := h; clear h; obtain ⟨bE, A3, H⟩ := G.bi H; replace H : (some (decide (bE ≥ 0))) = some r := H; obtain rfl := Option.some.inj H
 go_enter Try.func82, Try.ntmps82
 go_wp2_with (first | ((with_reducible refine G.f 95 rfl ?_); refine G.gL 7 Try.func95 #[.slice A0 l0.length c0, .int .i64 a1] ?_; (with_reducible refine (slices_Index_int_int.calls k _ _ l0 a1 bE _ ?side1 ?side2 A3.out).mono ?_); (case side1 => exact G.cC bB.out); (case side2 => exact ci.out); rintro e w' ⟨rfl, ⟨nd, rfl⟩⟩; refine ⟨_, rfl, ?_⟩))
 go_ret
 exact ⟨caaI, by repeat (first | exact Drawn0.refl _ | apply Drawn0.step)⟩
end Go.Proofs.Ytddadihobjinhaa.P
namespace Go.Proofs.Ytddadihobjinhaa.G
open Go.RowKit Go.Proofs.YtddadihobjinhaaW.PrintWords
abbrev big : Int := 4611686018427387904
theorem w64 {x : Int} (h0 : -9223372036854775808 ≤ x) (h1 : x ≤ 9223372036854775807) : wrap64 x = x := by
 unfold wrap64
 omega
theorem lt_mid {α : Type} (pre : List α) (t : α) (suf : List α) : (pre.length : Int) < ((pre ++ t :: suf).length : Int) := by
 simp; omega
theorem nlt_end {α : Type} (pre : List α) : ¬ (pre.length : Int) < ((pre ++ []).length : Int) := by
 simp
theorem nn (n : Nat) : 0 ≤ (n : Int) := Int.natCast_nonneg n
theorem app_one {α : Type} (pre : List α) (t : α) (suf : List α) : pre ++ t :: suf = (pre ++ [t]) ++ suf := by simp
theorem w_succ {α : Type} {pre : List α} {t : α} (h : (pre.length : Int) < big) : wrap64 ((pre.length : Int) + 1) = ((pre ++ [t]).length : Int) := by
 rw [w64 (by omega) (by unfold big at h; omega)]; simp
theorem getD_mid {α : Type} (pre : List α) (t : α) (suf : List α) (d : α) : (pre ++ t :: suf).getD ((pre.length : Int)).toNat d = t := by
 simp [List.getD]
theorem rd_mid (pre : List Int) (t : Int) (suf : List Int) : rd (pre ++ t :: suf) (pre.length : Int) = t := by
 unfold rd; exact getD_mid pre t suf 0
theorem len_mid {α : Type} {pre : List α} {t : α} {suf : List α} (h : ((pre ++ t :: suf).length : Int) < big) : (pre.length : Int) < big := by
 simp at h; unfold big at *; omega
theorem len_app {α : Type} {pre : List α} {t : α} {suf : List α} (h : ((pre ++ t :: suf).length : Int) < big) : (((pre ++ [t]) ++ suf).length : Int) < big := by
 rw [← app_one]; exact h
theorem Ev.val {α : Type} {a : Option α} {r : α} (h : a = some r) : Ev (fun _ => a) r := ⟨0, fun _ _ => h⟩
theorem Ev.eq {α : Type} {g : Nat → Option α} {r s : α} (h : Ev g r) (e : r = s) : Ev g s := e ▸ h
theorem Ev.unique {α : Type} {g : Nat → Option α} {r s : α} (h : Ev g r) (k : Ev g s) : r = s := by
 obtain ⟨K, h⟩ := h
 obtain ⟨L, k⟩ := k
 have := (h (max K L) (by omega)).symm.trans (k (max K L) (by omega))
 injection this
def tlt (s t : Tie) : Prop := s.f0 < t.f0 ∨ s.f0 = t.f0 ∧ s.f1 < t.f1
instance (s t : Tie) : Decidable (tlt s t) := by unfold tlt; infer_instance
def inr (n : Int) (t : Tie) : Prop := 0 ≤ t.f0 ∧ t.f0 < t.f1 ∧ t.f1 < n
instance (n : Int) (t : Tie) : Decidable (inr n t) := by unfold inr; infer_instance
def asc : List Tie → Prop
 | [] => True
 | [_] => True
 | a :: b :: r => tlt a b ∧ asc (b :: r)
instance asc_dec : (l : List Tie) → Decidable (asc l)
 | [] => isTrue trivial
 | [_] => isTrue trivial
 | a :: b :: r => by
  have := asc_dec (b :: r)
  unfold asc
  infer_instance
def ok (n : Int) (E : List Tie) : Prop := 0 ≤ n ∧ n ≤ 8 ∧ (∀ t ∈ E, inr n t) ∧ asc E
instance (n : Int) (E : List Tie) : Decidable (ok n E) := by unfold ok; infer_instance
theorem tlt_trans {a b c : Tie} (h : tlt a b) (k : tlt b c) : tlt a c := by
 unfold tlt at *; omega
theorem asc_cons {a : Tie} {l : List Tie} : asc (a :: l) ↔ (∀ t ∈ l, tlt a t) ∧ asc l := by
 induction l generalizing a with
 | nil => simp [asc]
 | cons b r ih =>
  constructor
  ·intro h
   obtain ⟨h1, h2⟩ := h
   refine ⟨fun t ht => ?_, h2⟩
   rcases List.mem_cons.1 ht with rfl | ht
   ·exact h1
   ·exact tlt_trans h1 ((ih.1 h2).1 t ht)
  ·rintro ⟨h1, h2⟩
   exact ⟨h1 b (List.mem_cons_self), h2⟩
theorem asc_pairwise {l : List Tie} : asc l ↔ l.Pairwise tlt := by
 induction l with
 | nil => simp [asc]
 | cons a l ih => rw [asc_cons, List.pairwise_cons, ih]
theorem asc_sublist {l m : List Tie} (h : asc m) (s : l.Sublist m) : asc l := by
 rw [asc_pairwise] at *; exact h.sublist s
theorem asc_filter {l : List Tie} (p : Tie → Bool) (h : asc l) : asc (l.filter p) := asc_sublist h List.filter_sublist
theorem ok_filter {n : Int} {E : List Tie} (p : Tie → Bool) (h : ok n E) : ok n (E.filter p) :=
 ⟨h.1, h.2.1, fun t ht => h.2.2.1 t (List.mem_filter.1 ht).1, asc_filter p h.2.2.2⟩
theorem ok_sublist {n : Int} {E F : List Tie} (h : ok n E) (s : F.Sublist E) : ok n F :=
 ⟨h.1, h.2.1, fun t ht => h.2.2.1 t (s.subset ht), asc_sublist h.2.2.2 s⟩
theorem asc_len {l : List Tie} (lo : Int) (hl : ∀ t ∈ l, 0 ≤ t.f0 ∧ t.f0 < 8 ∧ 0 ≤ t.f1 ∧ t.f1 < 8) (h : asc l) (hlo : ∀ t ∈ l, lo ≤ t.f0 * 8 + t.f1) (h64 : lo ≤ 64) : (l.length : Int) ≤ 64 - lo := by
 induction l generalizing lo with
 | nil => simp; omega
 | cons a r ih =>
  obtain ⟨h1, h2⟩ := asc_cons.1 h
  have ha := hlo a (List.mem_cons_self)
  have hb := hl a (List.mem_cons_self)
  have := ih (a.f0 * 8 + a.f1 + 1) (fun t ht => hl t (List.mem_cons_of_mem _ ht)) h2 (fun t ht => by
   have := h1 t ht
   have hc := hl t (List.mem_cons_of_mem _ ht)
   unfold tlt at this; omega) (by omega)
  simp only [List.length_cons]
  omega
theorem ok_len {n : Int} {E : List Tie} (h : ok n E) : (E.length : Int) ≤ 64 := by
 have := asc_len (l := E) 0 (fun t ht => by have := h.2.2.1 t ht; have := h.2.1; unfold inr at *; omega) h.2.2.2 (fun t ht => by have := h.2.2.1 t ht; unfold inr at this; omega) (by omega)
 omega
end Go.Proofs.Ytddadihobjinhaa.G
namespace Go.Proofs.Ytddadihobjinhaa.P
open Go.RowKit Go.Proofs.YtddadihobjinhaaW.PrintWords Go.Proofs.Ytddadihobjinhaa.G
theorem rdI_mid (pre : List S53) (t : S53) (suf : List S53) : rd_T53 (pre ++ t :: suf) (pre.length : Int) = t := by
  unfold rd_T53; exact getD_mid pre t suf _
theorem in_eq (a b c : Int) : spec_l6In.f a b c = some (decide (b ≤ a ∧ a ≤ c)) := by
  unfold spec_l6In.f
  by_cases h : b ≤ a <;> simp [h]
theorem less_eq (a b c d : Int) : spec_l1Less.f a b c d = some (decide (tlt ⟨a, b⟩ ⟨c, d⟩)) := by
  unfold spec_l1Less.f tlt
  by_cases h : a < c
  · simp [h]
  · by_cases h2 : a = c <;> simp [h, h2]
theorem len_pred {α : Type} (p : List α) (q : α) (h : ((p ++ [q]).length : Int) < big) : wrap64 (((p ++ [q]).length : Int) - 1) = (p.length : Int) := by
  rw [w64 (by rw [List.length_append]; omega) (by unfold big at h; omega)]; simp
theorem mid_one {α : Type} (p : List α) (q : α) (suf : List α) : p ++ [q] ++ suf = p ++ q :: suf := by simp
theorem lt_mid2 {α : Type} (p : List α) (q : α) (suf : List α) : (p.length : Int) < ((p ++ [q] ++ suf).length : Int) := by simp; omega
theorem specOk_l0 (n : Int) (h0 : 0 ≤ n) (h8 : n ≤ 8) : ∀ (suf p : List S53) (q : S53), (((p ++ [q]) ++ suf).length : Int) < big →
    Ev (fun k => spec_NetOk.l0 k ((p ++ [q]).length : Int) n ((p ++ [q]) ++ suf)) (decide ((∀ t ∈ suf, inr n t) ∧ asc (q :: suf))) := by
  intro suf
  induction suf with
  | nil =>
    intro p q hb
    refine Ev.step (fun k => by simp only [spec_NetOk.l0, nlt_end, if_false] <;> exact rfl) ?_
    exact Ev.val (congrArg some (decide_eq_true (by simp [asc])).symm)
  | cons t suf ih =>
    intro p q hb
    have hp : ((p ++ [q]).length : Int) < big := len_mid hb
    have e1 : ((p ++ [q]).length : Int) > 0 := by rw [List.length_append, List.length_singleton]; omega
    refine Ev.step (fun k => by simp only [spec_NetOk.l0, lt_mid, nn, if_true, rdI_mid, in_eq, less_eq, Option.bind_some, e1, len_pred p q hp, lt_mid2, w_succ (t := t) hp] <;> exact rfl) ?_
    have e2 : rd_T53 (p ++ [q] ++ t :: suf) (p.length : Int) = q := by rw [mid_one]; exact rdI_mid p q _
    simp only [e2, decide_eq_true_eq]
    rw [w64 (by omega) (by omega)]
    by_cases c1 : 0 ≤ t.f0 ∧ t.f0 ≤ n - 1
    · simp only [if_pos c1]
      rw [w64 (by omega) (by omega)]
      by_cases c2 : t.f0 + 1 ≤ t.f1 ∧ t.f1 ≤ n - 1
      · simp only [if_pos c2]
        have ht : inr n t := by unfold inr; omega
        by_cases c3 : tlt q t
        · simp only [if_pos c3]
          rw [app_one (p ++ [q]) t suf]
          refine Ev.eq (ih (p ++ [q]) t (len_app hb)) ?_
          rw [decide_eq_decide]
          simp [asc, ht, c3]
        · simp only [if_neg c3]
          exact Ev.val (by simp [asc, c3])
      · simp only [if_neg c2]
        refine Ev.val ?_
        have : ¬ inr n t := by unfold inr; omega
        simp [this]
    · simp only [if_neg c1]
      refine Ev.val ?_
      have : ¬ inr n t := by unfold inr; omega
      simp [this]
theorem specOk (n : Int) (E : List S53) (hb : (E.length : Int) < big) : Ev (fun k => spec_NetOk.f k n E) (decide (ok n E)) := by
  unfold spec_NetOk.f
  simp only [in_eq, Option.bind_some, decide_eq_true_eq]
  by_cases c1 : 0 ≤ n ∧ n ≤ 8
  · simp only [if_pos c1]
    by_cases c2 : (E.length : Int) > 64
    · refine Ev.step (fun k => by simp only [spec_NetOk.j0, c2, decide_true, if_true] <;> exact rfl) ?_
      exact Ev.val (by rw [decide_eq_false (fun h => by have := ok_len h; omega)])
    · refine Ev.step (fun k => by simp only [spec_NetOk.j0, c2, decide_false, Bool.false_eq_true, if_false] <;> exact rfl) ?_
      cases E with
      | nil =>
        refine Ev.step (fun k => by simp [spec_NetOk.l0] <;> exact rfl) ?_
        exact Ev.val (by simp [ok, asc, c1])
      | cons t suf =>
        have l1 : (0 : Int) < ((t :: suf).length : Int) := by rw [List.length_cons]; omega
        have r1 : rd_T53 (t :: suf) 0 = t := rfl
        have h0 : (0 : Int) ≤ 0 := Int.le_refl 0
        have w1 : wrap64 (0 + 1) = 1 := w64 (by omega) (by omega)
        have g1 : ¬ (0 : Int) > 0 := by omega
        refine Ev.step (fun k => by simp only [spec_NetOk.l0, l1, h0, if_true, r1, in_eq, Option.bind_some, w1, g1, if_false, decide_eq_true_eq] <;> exact rfl) ?_
        rw [w64 (by omega) (by omega)]
        by_cases d1 : 0 ≤ t.f0 ∧ t.f0 ≤ n - 1
        · simp only [if_pos d1]
          rw [w64 (by omega) (by omega)]
          by_cases d2 : t.f0 + 1 ≤ t.f1 ∧ t.f1 ≤ n - 1
          · simp only [if_pos d2]
            have ht : inr n t := by unfold inr; omega
            refine Ev.eq (specOk_l0 n c1.1 c1.2 suf [] t hb) ?_
            rw [decide_eq_decide]
            simp [ok, c1, ht]
          · simp only [if_neg d2]
            refine Ev.val ?_
            have : ¬ inr n t := by unfold inr; omega
            simp [this, ok]
        · simp only [if_neg d1]
          refine Ev.val ?_
          have : ¬ inr n t := by unfold inr; omega
          simp [this, ok]
  · simp only [if_neg c1]
    refine Ev.step (fun k => by simp only [spec_NetOk.j0, if_true] <;> exact rfl) ?_
    refine Ev.val ?_
    have : ¬ ok n E := fun h => c1 ⟨h.1, h.2.1⟩
    simp [this]
def cmp3 (x y : Int) : Int := if x < y then -1 else if y < x then 1 else 0
theorem cmp_eq (a b : Int) : cmp_Compare_int.f a b = some (cmp3 a b) := by
  unfold cmp_Compare_int.f cmp3
  simp only [cmp_isNaN_int.f, bne_self_eq_false, Option.bind_some, Bool.false_eq_true, if_false]
  repeat' split
  all_goals first | rfl | omega
def ord (a b c d : Int) : Int := if cmp3 a c = 0 then cmp3 b d else cmp3 a c
theorem ord_neg (a b c d : Int) : ord a b c d ≥ 0 ↔ ¬ tlt ⟨a, b⟩ ⟨c, d⟩ := by
  unfold ord cmp3 tlt
  simp only
  repeat' split
  all_goals omega
theorem or_two (x y : Int) : Ev (fun k => cmp_Or_int.f k [x, y]) (if x = 0 then y else x) := by
  unfold cmp_Or_int.f
  have l : (([x, y] : List Int).length : Int) = 2 := rfl
  have r0 : rd [x, y] 0 = x := rfl
  have r1 : rd [x, y] 1 = y := rfl
  have h0 : (0 : Int) ≤ 0 := Int.le_refl 0
  have a1 : (0 : Int) ≤ 1 := by omega
  have a2 : (0 : Int) < 2 := by omega
  have a3 : (1 : Int) < 2 := by omega
  have a4 : ¬ (2 : Int) < 2 := by omega
  have w1 : wrap64 (0 + 1) = 1 := w64 (by omega) (by omega)
  have w2 : wrap64 (1 + 1) = 2 := w64 (by omega) (by omega)
  refine Ev.step (fun k => by simp only [cmp_Or_int.l0, l, r0, h0, a2, if_true, w1] <;> exact rfl) ?_
  by_cases c : x = 0
  · simp only [if_pos c]
    refine Ev.step (fun k => by simp only [cmp_Or_int.l0, l, r1, a1, a3, if_true, w2] <;> exact rfl) ?_
    by_cases d : y = 0
    · simp only [if_pos d]
      refine Ev.step (fun k => by simp only [cmp_Or_int.l0, a4, if_false] <;> exact rfl) ?_
      exact Ev.val (by rw [d])
    · simp only [if_neg d]
      exact Ev.val rfl
  · simp only [if_neg c]
    exact Ev.val rfl
theorem order_ev (a b c d : Int) : Ev (fun k => impl_tieOrder.f k a b c d) (ord a b c d) := by
  unfold impl_tieOrder.f
  simp only [cmp_eq, Option.bind_some]
  exact Ev.bind (or_two _ _) (Ev.val rfl)
theorem ascending_l0 : ∀ (suf p : List S53) (q : S53), (((p ++ [q]) ++ suf).length : Int) < big →
    Ev (fun k => impl_ascending.l0 k ((p ++ [q]) ++ suf) ((p ++ [q]).length : Int)) (decide (asc (q :: suf))) := by
  intro suf
  induction suf with
  | nil =>
    intro p q hb
    refine Ev.step (fun k => by simp only [impl_ascending.l0, nlt_end, if_false] <;> exact rfl) ?_
    exact Ev.val (congrArg some (decide_eq_true (by simp [asc])).symm)
  | cons t suf ih =>
    intro p q hb
    have hp : ((p ++ [q]).length : Int) < big := len_mid hb
    have e2 : rd_T53 (p ++ [q] ++ t :: suf) (p.length : Int) = q := by rw [mid_one]; exact rdI_mid p q _
    refine Ev.step (fun k => by simp only [impl_ascending.l0, lt_mid, nn, if_true, rdI_mid, len_pred p q hp, lt_mid2, w_succ (t := t) hp, e2] <;> exact rfl) ?_
    refine Ev.bind (order_ev _ _ _ _) ?_
    simp only [ord_neg]
    by_cases c3 : tlt q t
    · simp only [c3, not_true_eq_false, if_false]
      rw [app_one (p ++ [q]) t suf]
      refine Ev.eq (ih (p ++ [q]) t (len_app hb)) ?_
      rw [decide_eq_decide]
      simp [asc, c3]
    · simp only [c3, not_false_eq_true, if_true]
      exact Ev.val (by simp [asc, c3])
theorem ascending_ev (E : List S53) (hb : (E.length : Int) < big) : Ev (fun k => impl_ascending.f k E) (decide (asc E)) := by
  unfold impl_ascending.f
  cases E with
  | nil =>
    refine Ev.step (fun k => by simp [impl_ascending.l0] <;> exact rfl) ?_
    exact Ev.val (congrArg some (decide_eq_true (by simp [asc])).symm)
  | cons t suf => exact ascending_l0 suf [] t hb
theorem implOk_l0 (n : Int) (E : List S53) (hE : (E.length : Int) < big) : ∀ (suf p : List S53), ((p ++ suf).length : Int) < big →
    Ev (fun k => impl_NetOk.l0 k (p ++ suf) ((p ++ suf).length : Int) (p.length : Int) n E) (decide ((∀ t ∈ suf, inr n t) ∧ asc E)) := by
  intro suf
  induction suf with
  | nil =>
    intro p hb
    refine Ev.step (fun k => by simp only [impl_NetOk.l0, nlt_end, if_false] <;> exact rfl) ?_
    refine Ev.bind (ascending_ev E hE) ?_
    exact Ev.val (by simp)
  | cons t suf ih =>
    intro p hb
    have hp : (p.length : Int) < big := len_mid hb
    refine Ev.step (fun k => by simp only [impl_NetOk.l0, lt_mid, nn, if_true, rdI_mid, w_succ (t := t) hp] <;> exact rfl) ?_
    by_cases c1 : t.f0 < 0
    · simp only [if_pos c1]
      exact Ev.val (by have : ¬ inr n t := by unfold inr; omega
                       simp [this])
    · simp only [if_neg c1]
      by_cases c2 : t.f0 ≥ t.f1
      · simp only [if_pos c2]
        exact Ev.val (by have : ¬ inr n t := by unfold inr; omega
                         simp [this])
      · simp only [if_neg c2]
        by_cases c3 : t.f1 ≥ n
        · simp only [if_pos c3]
          exact Ev.val (by have : ¬ inr n t := by unfold inr; omega
                           simp [this])
        · simp only [if_neg c3]
          rw [app_one p t suf]
          refine Ev.eq (ih (p ++ [t]) (len_app hb)) ?_
          have : inr n t := by unfold inr; omega
          rw [decide_eq_decide]
          simp [this]
theorem implOk (n : Int) (E : List S53) (hb : (E.length : Int) < big) : Ev (fun k => impl_NetOk.f k n E) (decide (ok n E)) := by
  unfold impl_NetOk.f
  by_cases c1 : n < 0
  · simp only [if_pos c1]
    refine Ev.step (fun k => by simp only [impl_NetOk.j0, if_true] <;> exact rfl) ?_
    exact Ev.val (by have : ¬ ok n E := fun h => by have := h.1; omega
                     simp [this])
  · simp only [if_neg c1]
    by_cases c2 : n > 8
    · refine Ev.step (fun k => by simp only [impl_NetOk.j0, c2, decide_true, if_true] <;> exact rfl) ?_
      exact Ev.val (by have : ¬ ok n E := fun h => by have := h.2.1; omega
                       simp [this])
    · refine Ev.step (fun k => by simp only [impl_NetOk.j0, c2, decide_false, Bool.false_eq_true, if_false] <;> exact rfl) ?_
      refine Ev.eq (implOk_l0 n E hb E [] hb) ?_
      rw [decide_eq_decide]
      unfold ok
      constructor
      · exact fun h => ⟨by omega, by omega, h.1, h.2⟩
      · exact fun h => ⟨h.2.2.1, h.2.2.2⟩
end Go.Proofs.Ytddadihobjinhaa.P
namespace Go.Proofs.Ytddadihobjinhaa.G
def tieOf (a b : Int) : Tie := if a < b then ⟨a, b⟩ else ⟨b, a⟩
theorem tieOf_comm (a b : Int) : tieOf a b = tieOf b a := by
 unfold tieOf
 rcases Int.lt_trichotomy a b with h | h | h
 ·rw [if_pos h, if_neg (by omega)]
 ·subst h; rfl
 ·rw [if_neg (by omega), if_pos h]
theorem tieOf_inr {n : Int} {t : Tie} (h : inr n t) : tieOf t.f0 t.f1 = t := by
 unfold tieOf; rw [if_pos h.2.1]
theorem tieOf_lt {a b : Int} (h : a < b) : tieOf a b = ⟨a, b⟩ := by unfold tieOf; rw [if_pos h]
end Go.Proofs.Ytddadihobjinhaa.G
namespace Go.Proofs.Ytddadihobjinhaa.P
open Go.RowKit Go.Proofs.YtddadihobjinhaaW.PrintWords Go.Proofs.Ytddadihobjinhaa.G
theorem rdH_mid (pre : List S53) (t : S53) (suf : List S53) : rd_T53 (pre ++ t :: suf) (pre.length : Int) = t := by
 unfold rd_T53; exact getD_mid pre t suf _
theorem l1Tie_eq (a b : Int) : spec_l1Tie.f a b = some ((tieOf a b).f0, (tieOf a b).f1) := by
 unfold spec_l1Tie.f tieOf
 by_cases h : a < b <;> simp [h]
theorem tie_beq (s t : Tie) : (s.f0 == t.f0 && (s.f1 == t.f1)) = decide (s = t) := by
 obtain ⟨a, b⟩ := s
 obtain ⟨c, d⟩ := t
 simp only [Tie.mk.injEq]
 by_cases h : a = c <;> by_cases k : b = d <;> simp [h, k]
theorem l1Has_l0 (n a b : Int) : ∀ (suf p : List S53), ((p ++ suf).length : Int) < big →
  Ev (fun k => spec_l1Has.l0 k a b (p.length : Int) n (p ++ suf)) (decide (tieOf a b ∈ suf)) := by
 intro suf
 induction suf with
 | nil =>
  intro p hb
  refine Ev.step (fun k => by simp only [spec_l1Has.l0, nlt_end, if_false] <;> exact rfl) ?_
  exact Ev.val (congrArg some (decide_eq_false (by simp)).symm)
 | cons t suf ih =>
  intro p hb
  have hp : (p.length : Int) < big := len_mid hb
  refine Ev.step (fun k => by simp only [spec_l1Has.l0, lt_mid, nn, if_true, rdH_mid, w_succ (t := t) hp, l1Tie_eq, Option.bind_some, tie_beq, decide_eq_true_eq] <;> exact rfl) ?_
  by_cases c : t = tieOf a b
  ·simp only [if_pos c]
   exact Ev.val (congrArg some (decide_eq_true (by simp [c])).symm)
  ·simp only [if_neg c]
   rw [app_one p t suf]
   refine Ev.eq (ih (p ++ [t]) (len_app hb)) ?_
   rw [decide_eq_decide]
   have : ¬ tieOf a b = t := fun e => c e.symm
   simp [this]
theorem l1Has_ev (n a b : Int) (E : List S53) (hb : (E.length : Int) < big) : Ev (fun k => spec_l1Has.f k n E a b) (decide (tieOf a b ∈ E)) := by
 unfold spec_l1Has.f
 exact l1Has_l0 n a b E [] hb
end Go.Proofs.Ytddadihobjinhaa.P
namespace Go.Proofs.Ytddadihobjinhaa.G
def cut (X : List Tie) (t : Tie) : List Tie := X.filter fun s => !decide (s = t)
theorem mem_cut {X : List Tie} {s t : Tie} : s ∈ cut X t ↔ s ∈ X ∧ s ≠ t := by
 unfold cut
 rw [List.mem_filter]
 simp
theorem ok_cut {n : Int} {X : List Tie} (t : Tie) (h : ok n X) : ok n (cut X t) := ok_filter _ h
def ties : List Int → List Tie
 | a :: b :: r => tieOf a b :: ties (b :: r)
 | _ => []
def cuts : List Tie → List Tie → Prop
 | _, [] => True
 | X, t :: r => t ∈ X ∧ cuts (cut X t) r
instance cuts_dec : (X T : List Tie) → Decidable (cuts X T)
 | _, [] => isTrue trivial
 | X, t :: r => by
  have := cuts_dec (cut X t) r
  unfold cuts
  infer_instance
def trailOk (n : Int) (E : List Tie) (row : List Int) : Prop := ok n E ∧ row.length = E.length + 1 ∧ (∀ v ∈ row, 0 ≤ v ∧ v < n) ∧ cuts E (ties row)
instance (n : Int) (E : List Tie) (row : List Int) : Decidable (trailOk n E row) := by unfold trailOk; infer_instance
theorem tieOf_ends {n a b : Int} (h : inr n (tieOf a b)) : (0 ≤ a ∧ a < n) ∧ (0 ≤ b ∧ b < n) ∧ a ≠ b := by
 unfold tieOf inr at h
 by_cases c : a < b
 ·rw [if_pos c] at h; simp only at h; omega
 ·rw [if_neg c] at h; simp only at h; omega
theorem ties_knots {n : Int} {E : List Tie} (hE : ∀ t ∈ E, inr n t) : ∀ (r : List Int) (a : Int), 0 ≤ a ∧ a < n → (∀ t ∈ ties (a :: r), t ∈ E) → ∀ v ∈ a :: r, 0 ≤ v ∧ v < n
 | [], a, ha, _ => by simpa using ha
 | b :: r, a, ha, h => by
  intro v hv
  have ht : tieOf a b ∈ E := h _ (by simp [ties])
  have hb := (tieOf_ends (hE _ ht)).2.1
  rcases List.mem_cons.1 hv with rfl | hv
  ·exact ha
  ·exact ties_knots hE r b hb (fun t ht => h t (by simp [ties, ht])) v hv
end Go.Proofs.Ytddadihobjinhaa.G
namespace Go.Proofs.Ytddadihobjinhaa.G
open Go.RowKit Go.Proofs.YtddadihobjinhaaW.PrintWords
inductive Conn (E : List Tie) : Int → Int → Prop
 | refl (a : Int) : Conn E a a
 | step {a b c : Int} : Conn E a b → tieOf b c ∈ E → Conn E a c
theorem Conn.one {E : List Tie} {a b : Int} (h : tieOf a b ∈ E) : Conn E a b := .step (.refl a) h
theorem Conn.trans {E : List Tie} {a b c : Int} (h : Conn E a b) (k : Conn E b c) : Conn E a c := by
 induction k with
 | refl => exact h
 | step _ t ih => exact .step ih t
theorem Conn.symm {E : List Tie} {a b : Int} (h : Conn E a b) : Conn E b a := by
 induction h with
 | refl => exact .refl _
 | step _ t ih => exact (Conn.one (tieOf_comm _ _ ▸ t)).trans ih
theorem Conn.mono {E F : List Tie} {a b : Int} (h : Conn E a b) (hs : ∀ t ∈ E, t ∈ F) : Conn F a b := by
 induction h with
 | refl => exact .refl _
 | step _ t ih => exact .step ih (hs _ t)
theorem Conn.closed {E : List Tie} {a b : Int} (h : Conn E a b) (p : Int → Prop) (ha : p a) (hc : ∀ x y, p x → tieOf x y ∈ E → p y) : p b := by
 induction h with
 | refl => exact ha
 | step _ t ih => exact hc _ _ ih t
theorem Conn.range {n : Int} {E : List Tie} (hE : ∀ t ∈ E, inr n t) {a b : Int} (h : Conn E a b) (ha : 0 ≤ a ∧ a < n) : 0 ≤ b ∧ b < n :=
 h.closed (fun x => 0 ≤ x ∧ x < n) ha (fun _ _ _ ht => (tieOf_ends (hE _ ht)).2.1)
theorem Conn.tie {E : List Tie} {t : Tie} (ht : t ∈ E) (h : t.f0 < t.f1) : Conn E t.f0 t.f1 := Conn.one (by rw [tieOf_lt h]; exact ht)
def EvP (g : Nat → Option Bool) (P : Prop) : Prop := ∃ b : Bool, Ev g b ∧ (b = true ↔ P)
theorem EvP.of {g : Nat → Option Bool} {P : Prop} [Decidable P] (h : Ev g (decide P)) : EvP g P := ⟨_, h, by simp⟩
theorem EvP.iff {g : Nat → Option Bool} {P Q : Prop} (h : EvP g P) (e : P ↔ Q) : EvP g Q := by
 obtain ⟨b, h1, h2⟩ := h
 exact ⟨b, h1, h2.trans e⟩
theorem EvP.step {g f : Nat → Option Bool} {P : Prop} (h : ∀ k, g (k + 1) = f k) (k : EvP f P) : EvP g P := by
 obtain ⟨b, h1, h2⟩ := k
 exact ⟨b, Ev.step h h1, h2⟩
theorem EvP.bind {α : Type} {g : Nat → Option α} {f : Nat → α → Option Bool} {a : α} {P : Prop} (h : Ev g a) (k : EvP (fun n => f n a) P) : EvP (fun n => (g n).bind (f n)) P := by
 obtain ⟨b, h1, h2⟩ := k
 exact ⟨b, Ev.bind h h1, h2⟩
theorem EvP.same {g f : Nat → Option Bool} {P : Prop} (h : EvP g P) (k : EvP f P) : ∃ b, Ev g b ∧ Ev f b := by
 obtain ⟨b, h1, h2⟩ := h
 obtain ⟨c, k1, k2⟩ := k
 have : b = c := by
  rw [Bool.eq_iff_iff]; exact h2.trans k2.symm
 exact ⟨b, h1, this ▸ k1⟩
theorem nodup_len_le {α : Type} [DecidableEq α] : ∀ {l m : List α}, l.Nodup → (∀ x ∈ l, x ∈ m) → l.length ≤ m.length
 | [], m, _, _ => Nat.zero_le _
 | a :: l, m, h, hs => by
  obtain ⟨h1, h2⟩ := List.nodup_cons.1 h
  have ha : a ∈ m := hs a (List.mem_cons_self)
  have : l.length ≤ (m.erase a).length := nodup_len_le h2 (fun x hx => (List.mem_erase_of_ne (fun (e : x = a) => h1 (by rw [← e]; exact hx))).2 (hs x (List.mem_cons_of_mem _ hx)))
  rw [List.length_erase_of_mem ha] at this
  have : 0 < m.length := List.length_pos_of_mem ha
  simp only [List.length_cons]
  omega
def knots (n : Int) : List Int := (List.range n.toNat).map fun (i : Nat) => (i : Int)
theorem mem_knots {n v : Int} : v ∈ knots n ↔ 0 ≤ v ∧ v < n := by
 unfold knots
 rw [List.mem_map]
 constructor
 ·rintro ⟨i, hi, rfl⟩
  have := List.mem_range.1 hi
  omega
 ·rintro ⟨h0, h1⟩
  exact ⟨v.toNat, List.mem_range.2 (by omega), by omega⟩
theorem knots_len (n : Int) : (knots n).length = n.toNat := by simp [knots]
theorem knots_succ {n : Int} (h : 0 ≤ n) : knots (n + 1) = knots n ++ [n] := by
 unfold knots
 have : (n + 1).toNat = n.toNat + 1 := by omega
 rw [this, List.range_succ, List.map_append]
 simp
 omega
def next (n : Int) (E : List Tie) (v : Int) : List Int := (knots n).filter fun i => decide (tieOf v i ∈ E)
theorem mem_next {n v i : Int} {E : List Tie} (hE : ∀ t ∈ E, inr n t) : i ∈ next n E v ↔ tieOf v i ∈ E := by
 unfold next
 rw [List.mem_filter, mem_knots]
 simp only [decide_eq_true_eq]
 exact ⟨fun h => h.2, fun h => ⟨(tieOf_ends (hE _ h)).2.1, h⟩⟩
end Go.Proofs.Ytddadihobjinhaa.G
namespace Go.Proofs.Ytddadihobjinhaa.G
def lexlt : List Int → List Int → Prop
 | [], [] => False
 | [], _ :: _ => True
 | _ :: _, [] => False
 | x :: a, y :: b => x < y ∨ x = y ∧ lexlt a b
instance lexlt_dec : (a b : List Int) → Decidable (lexlt a b)
 | [], [] => isFalse (fun h => h)
 | [], _ :: _ => isTrue trivial
 | _ :: _, [] => isFalse (fun h => h)
 | x :: a, y :: b => by
  have := lexlt_dec a b
  unfold lexlt
  infer_instance
theorem lexlt_irrefl : ∀ a : List Int, ¬ lexlt a a
 | [], h => h
 | x :: a, h => by
  rcases h with h | h
  ·omega
  ·exact lexlt_irrefl a h.2
theorem lexlt_trans : ∀ {a b c : List Int}, lexlt a b → lexlt b c → lexlt a c
 | [], [], _, h, _ => h.elim
 | [], _ :: _, [], _, k => k.elim
 | [], _ :: _, _ :: _, _, _ => trivial
 | _ :: _, [], _, h, _ => h.elim
 | _ :: _, _ :: _, [], _, k => k.elim
 | x :: a, y :: b, z :: c, h, k => by
  rcases h with h | ⟨rfl, h⟩
  ·rcases k with k | ⟨rfl, k⟩
   ·exact .inl (by omega)
   ·exact .inl h
  ·rcases k with k | ⟨rfl, k⟩
   ·exact .inl k
   ·exact .inr ⟨rfl, lexlt_trans h k⟩
theorem lexlt_tri : ∀ a b : List Int, lexlt a b ∨ a = b ∨ lexlt b a
 | [], [] => .inr (.inl rfl)
 | [], _ :: _ => .inl trivial
 | _ :: _, [] => .inr (.inr trivial)
 | x :: a, y :: b => by
  rcases Int.lt_trichotomy x y with h | h | h
  ·exact .inl (.inl h)
  ·subst h
   rcases lexlt_tri a b with h | h | h
   ·exact .inl (.inr ⟨rfl, h⟩)
   ·exact .inr (.inl (by rw [h]))
   ·exact .inr (.inr (.inr ⟨rfl, h⟩))
  ·exact .inr (.inr (.inl h))
def wlt (a b : List Int) : Prop := a.length < b.length ∨ a.length = b.length ∧ lexlt a b
instance (a b : List Int) : Decidable (wlt a b) := by unfold wlt; infer_instance
theorem wlt_irrefl (a : List Int) : ¬ wlt a a := by
 rintro (h | h)
 ·omega
 ·exact lexlt_irrefl a h.2
theorem wlt_trans {a b c : List Int} (h : wlt a b) (k : wlt b c) : wlt a c := by
 rcases h with h | ⟨h, h2⟩
 ·rcases k with k | ⟨k, _⟩
  ·exact .inl (by omega)
  ·exact .inl (by omega)
 ·rcases k with k | ⟨k, k2⟩
  ·exact .inl (by omega)
  ·exact .inr ⟨by omega, lexlt_trans h2 k2⟩
theorem wlt_tri (a b : List Int) : wlt a b ∨ a = b ∨ wlt b a := by
 rcases Nat.lt_trichotomy a.length b.length with h | h | h
 ·exact .inl (.inl h)
 ·rcases lexlt_tri a b with k | k | k
  ·exact .inl (.inr ⟨h, k⟩)
  ·exact .inr (.inl k)
  ·exact .inr (.inr (.inr ⟨h.symm, k⟩))
 ·exact .inr (.inr (.inl h))
def sortW (l : List (List Int)) : List (List Int) := l.mergeSort fun a b => !decide (wlt b a)
theorem sortW_perm (l : List (List Int)) : (sortW l).Perm l := List.mergeSort_perm l _
theorem sortW_sorted (l : List (List Int)) : (sortW l).Pairwise fun a b => ¬ wlt b a := by
 have := List.pairwise_mergeSort (le := fun a b => !decide (wlt b a)) (fun a b c h1 h2 => by
  simp only [Bool.not_eq_true', decide_eq_false_iff_not] at *
  intro h
  rcases wlt_tri a b with x | x | x
  ·exact h2 (wlt_trans h x)
  ·subst x; exact h2 h
  ·exact h1 x) (fun a b => by
  rcases wlt_tri a b with x | x | x
  ·have : ¬ wlt b a := fun k => wlt_irrefl _ (wlt_trans x k)
   simp [this]
  ·subst x; simp [wlt_irrefl]
  ·have : ¬ wlt a b := fun k => wlt_irrefl _ (wlt_trans x k)
   simp [this]) l
 exact this.imp (fun {a b} h => by simpa using h)
theorem sortedW_unique : ∀ {l m : List (List Int)}, l.Perm m → (l.Pairwise fun a b => ¬ wlt b a) → (m.Pairwise fun a b => ¬ wlt b a) → l = m
 | [], m, p, _, _ => (List.nil_perm.1 p).symm
 | a :: r, [], p, _, _ => absurd p.length_eq (by simp)
 | a :: r, b :: s, p, h, k => by
  rw [List.pairwise_cons] at h k
  have e : a = b := by
   rcases wlt_tri a b with x | x | x
   ·have : a ∈ b :: s := p.subset (by simp)
    rcases List.mem_cons.1 this with q | q
    ·exact q
    ·exact absurd x (k.1 a q)
   ·exact x
   ·have : b ∈ a :: r := p.symm.subset (by simp)
    rcases List.mem_cons.1 this with q | q
    ·exact q.symm
    ·exact absurd x (h.1 b q)
  subst e
  rw [sortedW_unique (List.Perm.cons_inv p) h.2 k.2]
theorem sortW_head {l : List (List Int)} {p : List Int} (hp : p ∈ l) (hm : ∀ q ∈ l, ¬ wlt q p) : ∃ r, sortW l = p :: r := by
 have h1 := sortW_sorted l
 have h2 := (sortW_perm l).mem_iff (a := p)
 cases e : sortW l with
 | nil => rw [e] at h2; exact absurd (h2.2 hp) (by simp)
 | cons h r =>
  rw [e] at h1 h2
  have hh : h ∈ l := (sortW_perm l).mem_iff.1 (by rw [e]; simp)
  rcases wlt_tri p h with x | x | x
  ·rcases List.mem_cons.1 (h2.2 hp) with q | q
   ·rw [q]; exact ⟨r, rfl⟩
   ·exact absurd x ((List.pairwise_cons.1 h1).1 p q)
  ·rw [x]; exact ⟨r, rfl⟩
  ·exact absurd x (hm h hh)
structure isWay (E : List Tie) (a b : Int) (p : List Int) : Prop where
 head : p.head? = some a
 last : p.getLast? = some b
 ties : ∀ t ∈ ties p, t ∈ E
 nodup : p.Nodup
def waysG (n : Int) (E : List Tie) (tgt : Int) : Nat → List Int → Int → List (List Int)
 | 0, _, _ => []
 | d + 1, pre, v => if v = tgt then [pre ++ [v]] else ((next n E v).filter fun k => !decide (k ∈ pre ++ [v])).flatMap fun k => waysG n E tgt d (pre ++ [v]) k
theorem mem_waysG {n tgt : Int} {E : List Tie} (hE : ∀ t ∈ E, inr n t) : ∀ (d : Nat) (pre : List Int) (v : Int) (p : List Int), p ∈ waysG n E tgt d pre v → (pre ++ [v]).Nodup →
  ∃ ext, p = pre ++ v :: ext ∧ (∀ t ∈ ties (v :: ext), t ∈ E) ∧ (v :: ext).getLast? = some tgt ∧ p.Nodup
 | 0, pre, v, p, h, _ => by simp [waysG] at h
 | d + 1, pre, v, p, h, hn => by
  unfold waysG at h
  by_cases c : v = tgt
  ·rw [if_pos c, List.mem_singleton] at h
   exact ⟨[], h, by simp [ties], by simp [c], h ▸ hn⟩
  ·rw [if_neg c, List.mem_flatMap] at h
   obtain ⟨k, hk, h⟩ := h
   rw [List.mem_filter, mem_next hE] at hk
   have hk2 : k ∉ pre ++ [v] := by simpa using hk.2
   have hn2 : ((pre ++ [v]) ++ [k]).Nodup := by
    rw [List.nodup_append]
    exact ⟨hn, by simp, fun a ha b hb e => by rw [List.mem_singleton] at hb; subst hb; subst e; exact hk2 ha⟩
   obtain ⟨ext, e, ht, hl, hd⟩ := mem_waysG hE d (pre ++ [v]) k p h hn2
   refine ⟨k :: ext, by rw [e]; simp, fun t ht2 => ?_, ?_, hd⟩
   ·simp only [ties, List.mem_cons] at ht2
    rcases ht2 with rfl | ht2
    ·exact hk.1
    ·exact ht t ht2
   ·rw [List.getLast?_cons_cons]; exact hl
theorem waysG_mem {n tgt : Int} {E : List Tie} (hE : ∀ t ∈ E, inr n t) : ∀ (d : Nat) (pre : List Int) (v : Int) (ext : List Int), (∀ t ∈ ties (v :: ext), t ∈ E) → (v :: ext).getLast? = some tgt → (pre ++ v :: ext).Nodup → ext.length < d →
  pre ++ v :: ext ∈ waysG n E tgt d pre v
 | 0, _, _, _, _, _, _, h => absurd h (Nat.not_lt_zero _)
 | d + 1, pre, v, [], _, hl, _, _ => by
  have : v = tgt := by simpa using hl
  unfold waysG
  rw [if_pos this]; simp
 | d + 1, pre, v, k :: ext, ht, hl, hn, hd => by
  have c : v ≠ tgt := by
   intro c
   rw [List.getLast?_cons_cons] at hl
   have h1 := List.mem_of_getLast? hl
   rw [List.nodup_append] at hn
   exact (List.nodup_cons.1 hn.2.1).1 (c ▸ h1)
  unfold waysG
  rw [if_neg c, List.mem_flatMap]
  have e : pre ++ v :: k :: ext = (pre ++ [v]) ++ k :: ext := by simp
  refine ⟨k, ?_, ?_⟩
  ·rw [List.mem_filter, mem_next hE]
   refine ⟨ht _ (by simp [ties]), ?_⟩
   rw [e, List.nodup_append] at hn
   have : k ∉ pre ++ [v] := fun h => hn.2.2 k h k (by simp) rfl
   simpa using this
  ·rw [e] at hn ⊢
   exact waysG_mem hE d (pre ++ [v]) k ext (fun t h => ht t (by simp [ties, h])) (by rw [List.getLast?_cons_cons] at hl; exact hl) hn (by simp at hd; omega)
theorem flat_le {α β : Type} (f : α → List β) (M : Nat) : ∀ (l : List α), (∀ x ∈ l, (f x).length ≤ M) → (l.flatMap f).length ≤ l.length * M
 | [], _ => by simp
 | a :: l, h => by
  have := flat_le f M l (fun x hx => h x (List.mem_cons_of_mem _ hx))
  have := h a (by simp)
  rw [List.flatMap_cons, List.length_append, List.length_cons, Nat.succ_mul]
  omega
theorem waysG_len {n tgt : Int} {E : List Tie} (h8 : n ≤ 8) : ∀ (d : Nat) (pre : List Int) (v : Int), (waysG n E tgt d pre v).length ≤ 8 ^ d
 | 0, _, _ => by simp [waysG]
 | d + 1, pre, v => by
  unfold waysG
  have p1 : 0 < 8 ^ d := Nat.pow_pos (by omega)
  by_cases c : v = tgt
  ·rw [if_pos c, Nat.pow_succ]; simp; omega
  ·rw [if_neg c]
   have l1 : ((next n E v).filter fun k => !decide (k ∈ pre ++ [v])).length ≤ 8 := by
    refine Nat.le_trans (List.length_filter_le _ _) ?_
    unfold next
    refine Nat.le_trans (List.length_filter_le _ _) ?_
    rw [knots_len]; omega
   refine Nat.le_trans (flat_le _ (8 ^ d) _ (fun k _ => waysG_len h8 d (pre ++ [v]) k)) ?_
   rw [Nat.pow_succ, Nat.mul_comm (8 ^ d)]
   exact Nat.mul_le_mul_right _ l1
def allG (n : Int) (E : List Tie) (a b : Int) : List (List Int) := sortW (waysG n E b 9 [] a)
theorem way_knots {n a b : Int} {E : List Tie} (hE : ∀ t ∈ E, inr n t) (ha : 0 ≤ a ∧ a < n) {p : List Int} (h : isWay E a b p) : ∀ v ∈ p, 0 ≤ v ∧ v < n := by
 cases p with
 | nil => simp
 | cons x r =>
  have : x = a := by have := h.head; simpa using this
  subst this
  exact ties_knots hE r x ha h.ties
theorem way_len {n a b : Int} {E : List Tie} (hE : ∀ t ∈ E, inr n t) (ha : 0 ≤ a ∧ a < n) {p : List Int} (h : isWay E a b p) : (p.length : Int) ≤ n := by
 have := nodup_len_le h.nodup (fun x hx => mem_knots.2 (way_knots hE ha h x hx))
 rw [knots_len] at this
 omega
theorem mem_waysA {n a b : Int} {E : List Tie} (h8 : n ≤ 8) (hE : ∀ t ∈ E, inr n t) (ha : 0 ≤ a ∧ a < n) {p : List Int} : p ∈ waysG n E b 9 [] a ↔ isWay E a b p := by
 constructor
 ·intro h
  obtain ⟨ext, e, ht, hl, hn⟩ := mem_waysG hE 9 [] a p h (by simp)
  rw [List.nil_append] at e
  subst e
  exact ⟨rfl, hl, ht, hn⟩
 ·intro h
  have hl := way_len hE ha h
  cases p with
  | nil => have := h.head; simp at this
  | cons x r =>
   have : x = a := by have := h.head; simpa using this
   subst this
   exact waysG_mem hE 9 [] x r h.ties h.last h.nodup (by simp at hl; omega)
theorem mem_allG {n a b : Int} {E : List Tie} (h8 : n ≤ 8) (hE : ∀ t ∈ E, inr n t) (ha : 0 ≤ a ∧ a < n) {p : List Int} : p ∈ allG n E a b ↔ isWay E a b p := by
 unfold allG
 rw [(sortW_perm _).mem_iff, mem_waysA h8 hE ha]
theorem allG_first {n a b : Int} {E : List Tie} (h8 : n ≤ 8) (hE : ∀ t ∈ E, inr n t) (ha : 0 ≤ a ∧ a < n) {p : List Int} (hp : isWay E a b p) (hm : ∀ q, isWay E a b q → ¬ wlt q p) : ∃ r, allG n E a b = p :: r :=
 sortW_head ((mem_waysA h8 hE ha).2 hp) (fun q hq => hm q ((mem_waysA h8 hE ha).1 hq))
theorem allG_conn {n a b : Int} {E : List Tie} {p : List Int} (h : isWay E a b p) : Conn E a b := by
 obtain ⟨h1, h2, h3, _⟩ := h
 have go : ∀ (p : List Int) (a : Int), (a :: p).getLast? = some b → (∀ t ∈ ties (a :: p), t ∈ E) → Conn E a b := by
  intro p
  induction p with
  | nil =>
   intro a h _
   have : a = b := by simpa using h
   rw [this]; exact .refl _
  | cons x p ih =>
   intro a h ht
   rw [List.getLast?_cons_cons] at h
   exact (Conn.one (ht _ (by simp [ties]))).trans (ih x h (fun t q => ht t (by simp [ties, q])))
 cases p with
 | nil => simp at h1
 | cons x r =>
  have : x = a := by simpa using h1
  subst this
  exact go r x h2 h3
structure Far (n : Int) (E : List Tie) (b : Int) (f : Int → Int) : Prop where
 zero : f b = 0
 only : ∀ v, 0 ≤ v → v < n → f v = 0 → v = b
 down : ∀ v, 0 ≤ v → v < n → 0 < f v → ∃ w, tieOf v w ∈ E ∧ f w = f v - 1
 near : ∀ v w, tieOf v w ∈ E → 0 ≤ f v → 0 ≤ f w ∧ f w ≤ f v + 1
 lo : ∀ v, 0 ≤ v → v < n → -1 ≤ f v
def down (n : Int) (E : List Tie) (f : Int → Int) : Nat → Int → List Int
 | 0, v => [v]
 | d + 1, v => v :: down n E f d (((next n E v).find? fun w => decide (f w = d)).getD 0)
theorem next_sorted (n v : Int) (E : List Tie) : (next n E v).Pairwise (· < ·) := by
 unfold next knots
 refine List.Pairwise.sublist List.filter_sublist ?_
 rw [List.pairwise_map]
 exact List.pairwise_lt_range.imp (fun {a b} h => by omega)
theorem Far.step {n b : Int} {E : List Tie} {f : Int → Int} (F : Far n E b f) (hE : ∀ t ∈ E, inr n t) {d : Nat} {v : Int} (hv : 0 ≤ v ∧ v < n) (hf : f v = (d + 1 : Nat)) :
  ∃ x, (next n E v).find? (fun w => decide (f w = d)) = some x ∧ tieOf v x ∈ E ∧ f x = d ∧ (0 ≤ x ∧ x < n) ∧ ∀ w, tieOf v w ∈ E → f w = d → x ≤ w := by
 obtain ⟨w, h1, h2⟩ := F.down v hv.1 hv.2 (by omega)
 have hw : w ∈ next n E v := (mem_next hE).2 h1
 cases e : (next n E v).find? (fun w => decide (f w = d)) with
 | none =>
  rw [List.find?_eq_none] at e
  have := e w hw
  simp at this
  omega
 | some x =>
  have hx := List.mem_of_find?_eq_some e
  have hx2 := List.find?_some e
  simp only [decide_eq_true_eq] at hx2
  have ht := (mem_next hE).1 hx
  refine ⟨x, rfl, ht, hx2, (tieOf_ends (hE _ ht)).2.1, fun w h1 h2 => ?_⟩
  obtain ⟨_, ls, rs, e1, e2⟩ := List.find?_eq_some_iff_append.1 e
  have hw : w ∈ next n E v := (mem_next hE).2 h1
  rw [e1, List.mem_append] at hw
  rcases hw with q | q
  ·have := e2 w q
   simp [h2] at this
  ·rcases List.mem_cons.1 q with q | q
   ·omega
   ·have hs := next_sorted n v E
    rw [e1, List.pairwise_append] at hs
    have := (List.pairwise_cons.1 hs.2.1).1 w q
    omega
theorem down_way {n b : Int} {E : List Tie} {f : Int → Int} (F : Far n E b f) (hE : ∀ t ∈ E, inr n t) : ∀ (d : Nat) (v : Int), 0 ≤ v ∧ v < n → f v = (d : Int) →
  ∃ r, down n E f d v = v :: r ∧ r.length = d ∧ (v :: r).getLast? = some b ∧ (∀ t ∈ ties (v :: r), t ∈ E) ∧ (∀ x ∈ r, f x < d) ∧ (v :: r).Nodup
 | 0, v, hv, hf => ⟨[], rfl, rfl, by rw [F.only v hv.1 hv.2 hf]; rfl, by simp [ties], by simp, by simp⟩
 | d + 1, v, hv, hf => by
  obtain ⟨x, e, ht, hx, hr, _⟩ := F.step hE hv hf
  obtain ⟨r, e1, e2, e3, e4, e5, e6⟩ := down_way F hE d x hr hx
  refine ⟨x :: r, ?_, by simp [e2], ?_, ?_, ?_, ?_⟩
  ·unfold down
   rw [e]
   simp only [Option.getD_some, e1]
  ·rw [List.getLast?_cons_cons]; exact e3
  ·intro t h
   simp only [ties, List.mem_cons] at h
   rcases h with rfl | h
   ·exact ht
   ·exact e4 t h
  ·intro y hy
   rcases List.mem_cons.1 hy with rfl | hy
   ·omega
   ·have := e5 y hy; omega
  ·rw [List.nodup_cons]
   refine ⟨fun h => ?_, e6⟩
   rcases List.mem_cons.1 h with q | q
   ·rw [q] at hf; omega
   ·have := e5 v q; omega
theorem Far.walk {n b : Int} {E : List Tie} {f : Int → Int} (F : Far n E b f) : ∀ (r : List Int) (v : Int), (v :: r).getLast? = some b → (∀ t ∈ ties (v :: r), t ∈ E) → 0 ≤ f v ∧ f v ≤ (r.length : Int)
 | [], v, h, _ => by
  have : v = b := by simpa using h
  rw [this, F.zero]; simp
 | w :: r, v, h, ht => by
  rw [List.getLast?_cons_cons] at h
  have := F.walk r w h (fun t q => ht t (by simp [ties, q]))
  have := F.near w v (by rw [tieOf_comm]; exact ht _ (by simp [ties])) (by omega)
  simp only [List.length_cons]
  omega
theorem down_least {n b : Int} {E : List Tie} {f : Int → Int} (F : Far n E b f) (hE : ∀ t ∈ E, inr n t) : ∀ (d : Nat) (v : Int) (q : List Int), 0 ≤ v ∧ v < n → f v = (d : Int) → (v :: q).getLast? = some b → (∀ t ∈ ties (v :: q), t ∈ E) → q.length ≤ d →
  q.length = d ∧ ¬ lexlt (v :: q) (down n E f d v)
 | 0, v, [], _, _, _, _, _ => ⟨rfl, by simp [down, lexlt]⟩
 | 0, v, _ :: _, _, _, _, _, h => by simp at h
 | d + 1, v, [], hv, hf, h, _, _ => by
  have : v = b := by simpa using h
  rw [this, F.zero] at hf; omega
 | d + 1, v, w :: q, hv, hf, h, ht, hl => by
  obtain ⟨x, e, htx, hx, hr, hmin⟩ := F.step hE hv hf
  rw [List.getLast?_cons_cons] at h
  have hw := F.walk q w h (fun t k => ht t (by simp [ties, k]))
  have htw : tieOf v w ∈ E := ht _ (by simp [ties])
  have h2 := F.near w v (by rw [tieOf_comm]; exact htw) (by omega)
  have hfw : f w = (d : Int) := by simp only [List.length_cons] at hl; omega
  obtain ⟨a, b2⟩ := down_least F hE d w q (tieOf_ends (hE _ htw)).2.1 hfw h (fun t k => ht t (by simp [ties, k])) (by simp only [List.length_cons] at hl; omega)
  refine ⟨by simp [a], ?_⟩
  unfold down
  rw [e]
  simp only [Option.getD_some]
  intro k
  have hm := hmin w htw hfw
  obtain ⟨r, e1, _⟩ := down_way F hE d x hr hx
  rcases k with k | ⟨_, k⟩
  ·omega
  ·by_cases c : w = x
   ·subst c; exact b2 k
   ·rw [e1] at k
    rcases k with k | k
    ·omega
    ·exact c k.1
def firstWay (n : Int) (E : List Tie) (f : Int → Int) (a : Int) : List Int := down n E f (f a).toNat a
theorem Far.first {n a b : Int} {E : List Tie} {f : Int → Int} (F : Far n E b f) (hE : ∀ t ∈ E, inr n t) (ha : 0 ≤ a ∧ a < n) (h : 0 ≤ f a) : isWay E a b (firstWay n E f a) ∧ ∀ q, isWay E a b q → ¬ wlt q (firstWay n E f a) := by
 obtain ⟨r, e1, e2, e3, e4, e5, e6⟩ := down_way F hE (f a).toNat a ha (by omega)
 unfold firstWay
 refine ⟨⟨by rw [e1]; rfl, by rw [e1]; exact e3, by rw [e1]; exact e4, by rw [e1]; exact e6⟩, fun q hq k => ?_⟩
 cases q with
 | nil => have := hq.head; simp at this
 | cons x q =>
  have : x = a := by have := hq.head; simpa using this
  subst this
  have hl : q.length ≤ (f x).toNat := by
   rw [e1] at k
   rcases k with k | k
   ·simp only [List.length_cons, e2] at k; omega
   ·have := k.1; simp only [List.length_cons, e2] at this; omega
  obtain ⟨l1, l2⟩ := down_least F hE (f x).toNat x q ha (by omega) hq.last hq.ties hl
  rcases k with k | k
  ·rw [e1] at k; simp only [List.length_cons, e2] at k; omega
  ·exact l2 k.2
theorem Far.conn {n a b : Int} {E : List Tie} {f : Int → Int} (F : Far n E b f) (hE : ∀ t ∈ E, inr n t) (ha : 0 ≤ a ∧ a < n) : 0 ≤ f a ↔ Conn E a b := by
 constructor
 ·intro h; exact allG_conn (n := n) (F.first hE ha h).1
 ·intro h
  refine h.symm.closed (fun x => 0 ≤ f x) (by rw [F.zero]; omega) (fun x y hx ht => (F.near x y ht hx).1)
theorem far_all {n a b : Int} {E : List Tie} {f : Int → Int} (F : Far n E b f) (h8 : n ≤ 8) (hE : ∀ t ∈ E, inr n t) (ha : 0 ≤ a ∧ a < n) (h : 0 ≤ f a) : ∃ r, allG n E a b = firstWay n E f a :: r :=
 allG_first h8 hE ha (F.first hE ha h).1 (F.first hE ha h).2
theorem far_none {n a b : Int} {E : List Tie} {f : Int → Int} (F : Far n E b f) (h8 : n ≤ 8) (hE : ∀ t ∈ E, inr n t) (ha : 0 ≤ a ∧ a < n) (h : ¬ 0 ≤ f a) : allG n E a b = [] := by
 rw [List.eq_nil_iff_forall_not_mem]
 intro p hp
 exact h ((F.conn hE ha).2 (allG_conn (n := n) ((mem_allG h8 hE ha).1 hp)))
end Go.Proofs.Ytddadihobjinhaa.G
namespace Go.Proofs.Ytddadihobjinhaa.P
open Go.RowKit Go.Proofs.YtddadihobjinhaaW.PrintWords Go.Proofs.YtddadihobjinhaaW.PrintLast Go.Proofs.YtddadihobjinhaaW.PrintMore
attribute [local go_sem] max2_int min2_int max_two min_two max_three min_three max_four min_four   -- for this text's walks alone
theorem caaV {p : Prop} (h : p := by first | rfl | (simp; done) | (simp [*]; done)) : p := h
def slices_Compare_int_int.l0 : Nat → List Int → List Int → List Int → Int → Int → Option (Int)
 | 0, _, _, _, _, _ => none
 | k + 1, x0, x1, x9, aJ, al => if al < aJ then (if 0 ≤ al then (if al < (x9.length : Int) then (if al ≥ (x1.length : Int) then (some 1) else (if al < (x1.length : Int) then ((cmp_Compare_int.f (rd x9 al) (rd x1 al)).bind fun ac => (if ac = 0 then (slices_Compare_int_int.l0 k x0 x1 x9 aJ (wrap64 (al + 1))) else (some ac))) else (none))) else (none)) else (none)) else (if (x0.length : Int) < (x1.length : Int) then (some (-1)) else (some 0))
def slices_Compare_int_int.f (k : Nat) (l0 : List Int) (l1 : List Int) : Option (Int) := slices_Compare_int_int.l0 k l0 l1 l0 (l0.length : Int) 0
set_option maxHeartbeats 8000000 in
set_option maxRecDepth 100000 in
theorem slices_Compare_int_int.calls (k : Nat) (A0 : Option Addr) (c0 : Nat) (l0 : List Int) (A1 : Option Addr) (c1 : Nat) (l1 : List Int) (r : Int) (w : World) (au : Kd.C (Kd.int .i64) w A0 l0.length l0) (av : l0.length ≤ c0) (hr1 : Kd.C (Kd.int .i64) w A1 l1.length l1) (aw : l1.length ≤ c1) (h : slices_Compare_int_int.f k l0 l1 = some r) :
  Calls Try.prog 91 #[.slice A0 l0.length c0, .slice A1 l1.length c1] w fun e w' => e = .returned (.int .i64 r) ∧ Drawn0 w w' := by
 have ax := G.m au; have aK := G.m av; clear au av; have aB := G.m hr1; have aL := G.m aw; clear hr1 aw; have H : (slices_Compare_int_int.l0 k l0 l1 l0 (l0.length : Int) 0) = some r := h; clear h; have H' := G.m H; clear H
 go_enter Try.func91, Try.ntmps91
 go_wp2
 go_loopg [11] k (fun kq aR w' => ∃ (aa : Int), aR = .int .i64 aa ∧ Aside0 (slices_Compare_int_int.l0 kq l0 l1 l0 (l0.length : Int) aa = some r) ∧ Aside0 (kq ≤ k) ∧ Drawn0 w w')
 case atStart => exact ⟨(0), (caaV), H', ⟨Nat.le_refl _⟩, by repeat (first | exact Drawn0.refl _ | apply Drawn0.step)⟩
 case round =>
  clear H'; obtain ⟨aa, rfl, HA, aM, ⟨m1, rfl⟩⟩ := hrel; cases gk with
  | zero => exact absurd HA.out (by simp [slices_Compare_int_int.l0])
  | succ k1 =>
   have H := HA.out; clear HA; simp only [slices_Compare_int_int.l0] at H
   by_cases c3 : aa < (l0.length : Int)
   ·rw [if_pos c3] at H; have aN : decide (aa < (l0.length : Int)) = true := decide_eq_true c3; clear c3
    by_cases c4 : 0 ≤ aa
    ·rw [if_pos c4] at H; have aV : decide (0 ≤ aa) = true := decide_eq_true c4; clear c4
     by_cases c5 : aa < (l0.length : Int)
     ·rw [if_pos c5] at H; have aW : decide (aa < (l0.length : Int)) = true := decide_eq_true c5; clear c5
      by_cases c6 : aa ≥ (l1.length : Int)
      ·rw [if_pos c6] at H; have aO : decide ((l1.length : Int) ≤ aa) = true := decide_eq_true c6; clear c6; obtain rfl := Option.some.inj H; have ag : 0 ≤ (aa : Int) := of_decide_eq_true (G.asm); have ah : aa < (l0.length : Int) := of_decide_eq_true (G.asm); obtain ⟨aC, am, ao⟩ := Kd.at_int ax.out aa ag ah; cases am; replace ag := eq_true ag; replace ah := eq_true ah
       go_wp2
       go_ret
       exact ⟨caaV, by repeat (first | exact Drawn0.refl _ | apply Drawn0.step)⟩
      ·rw [if_neg c6] at H; have aO : decide ((l1.length : Int) ≤ aa) = false := decide_eq_false c6; clear c6
       by_cases c7 : aa < (l1.length : Int)
       ·rw [if_pos c7] at H; have aX : decide (aa < (l1.length : Int)) = true := decide_eq_true c7; clear c7; obtain ⟨ac, A8, H⟩ := G.bi H; replace H : (if ac = 0 then (slices_Compare_int_int.l0 k1 l0 l1 l0 (l0.length : Int) (wrap64 (aa + 1))) else (some ac)) = some r := H
        by_cases c9 : ac = 0
        ·rw [if_pos c9] at H; have aP : (ac == 0) = true := beq_iff_eq.mpr c9; have aQ : (ac != 0) = false := bne_eq_false_iff_eq.mpr c9; clear c9; have H' := G.m H; clear H; have ag : 0 ≤ (aa : Int) := of_decide_eq_true (G.asm); have ah : aa < (l0.length : Int) := of_decide_eq_true (G.asm); obtain ⟨aC, am, ao⟩ := Kd.at_int ax.out aa ag ah; cases am; replace ag := eq_true ag; replace ah := eq_true ah; have ai : 0 ≤ (aa : Int) := of_decide_eq_true (G.asm); have aj : aa < (l1.length : Int) := of_decide_eq_true (G.asm); obtain ⟨aG, az, aE⟩ := Kd.at_int aB.out aa ai aj; cases az; replace ai := eq_true ai; replace aj := eq_true aj
         go_wp2_with (first | ((with_reducible refine G.f 90 rfl ?_); refine G.gL 26 Try.func90 #[.int .i64 (rd l0 aa), .int .i64 (rd l1 aa)] ?_; (with_reducible refine (cmp_Compare_int.calls (rd l0 aa) (rd l1 aa) ac _ A8.out).mono ?_); rintro e w' ⟨rfl, ⟨nd, rfl⟩⟩; refine ⟨_, rfl, ?_⟩))
         go_roundg k1
         case measure => have := aM.out; omega
         case rel => exact ⟨(wrap64 (aa + 1)), (caaV), H', ⟨by have := aM.out; omega⟩, by repeat (first | exact Drawn0.refl _ | apply Drawn0.step)⟩
        ·rw [if_neg c9] at H; have aP : (ac == 0) = false := beq_eq_false_iff_ne.mpr c9; have aQ : (ac != 0) = true := bne_iff_ne.mpr c9; obtain rfl := Option.some.inj H; have ag : 0 ≤ (aa : Int) := of_decide_eq_true (G.asm); have ah : aa < (l0.length : Int) := of_decide_eq_true (G.asm); obtain ⟨aC, am, ao⟩ := Kd.at_int ax.out aa ag ah; cases am; replace ag := eq_true ag; replace ah := eq_true ah; have ai : 0 ≤ (aa : Int) := of_decide_eq_true (G.asm); have aj : aa < (l1.length : Int) := of_decide_eq_true (G.asm); obtain ⟨aG, az, aE⟩ := Kd.at_int aB.out aa ai aj; cases az; replace ai := eq_true ai; replace aj := eq_true aj
         go_wp2_with (first | ((with_reducible refine G.f 90 rfl ?_); refine G.gL 26 Try.func90 #[.int .i64 (rd l0 aa), .int .i64 (rd l1 aa)] ?_; (with_reducible refine (cmp_Compare_int.calls (rd l0 aa) (rd l1 aa) ac _ A8.out).mono ?_); rintro e w' ⟨rfl, ⟨nd, rfl⟩⟩; refine ⟨_, rfl, ?_⟩))
         go_ret
         exact ⟨caaV, by repeat (first | exact Drawn0.refl _ | apply Drawn0.step)⟩
       ·rw [if_neg c7] at H; exact absurd H (by simp)
     ·rw [if_neg c5] at H; exact absurd H (by simp)
    ·rw [if_neg c4] at H; exact absurd H (by simp)
   ·rw [if_neg c3] at H; have aN : decide (aa < (l0.length : Int)) = false := decide_eq_false c3; clear c3
    by_cases c10 : (l0.length : Int) < (l1.length : Int)
    ·rw [if_pos c10] at H; have aH : decide ((l0.length : Int) < (l1.length : Int)) = true := decide_eq_true c10; have aI : decide (l0.length < l1.length) = true := decide_eq_true (Int.ofNat_lt.mp c10); clear c10; obtain rfl := Option.some.inj H
     go_wp2
     go_ret
     exact ⟨caaV, by repeat (first | exact Drawn0.refl _ | apply Drawn0.step)⟩
    ·rw [if_neg c10] at H; have aH : decide ((l0.length : Int) < (l1.length : Int)) = false := decide_eq_false c10; have aI : decide (l0.length < l1.length) = false := decide_eq_false (fun h => c10 (Int.ofNat_lt.mpr h)); clear c10; obtain rfl := Option.some.inj H
     go_wp2
     go_ret
     exact ⟨caaV, by repeat (first | exact Drawn0.refl _ | apply Drawn0.step)⟩
end Go.Proofs.Ytddadihobjinhaa.P
namespace Go.Proofs.Ytddadihobjinhaa.P
open Go.RowKit Go.Lib Go.Sort Go.Proofs.YtddadihobjinhaaW.PrintWords Go.Proofs.YtddadihobjinhaaW.PrintLast Go.Proofs.YtddadihobjinhaaW.PrintMore Go.Proofs.Ytddadihobjinhaa.G
def cmpL : List Int → List Int → Int
 | [], [] => 0
 | [], _ :: _ => -1
 | _ :: _, [] => 1
 | x :: a, y :: b => if cmp3 x y = 0 then cmpL a b else cmp3 x y
def cfW (a b : List Int) : Int := if cmp3 a.length b.length = 0 then cmpL a b else cmp3 a.length b.length
theorem cmp3_zero {x y : Int} : cmp3 x y = 0 ↔ x = y := by unfold cmp3; repeat' split <;> omega
theorem cmp3_neg {x y : Int} : cmp3 x y < 0 ↔ x < y := by unfold cmp3; repeat' split <;> omega
theorem cmpL_neg : ∀ a b : List Int, cmpL a b < 0 ↔ lexlt a b
 | [], [] => by simp [cmpL, lexlt]
 | [], _ :: _ => by simp [cmpL, lexlt]
 | _ :: _, [] => by simp [cmpL, lexlt]
 | x :: a, y :: b => by
  unfold cmpL lexlt
  by_cases c : cmp3 x y = 0
  ·rw [if_pos c, cmpL_neg a b]
   have := cmp3_zero.1 c
   constructor
   ·intro h; exact .inr ⟨this, h⟩
   ·rintro (h | h)
    ·omega
    ·exact h.2
  ·rw [if_neg c, cmp3_neg]
   constructor
   ·intro h; exact .inl h
   ·rintro (h | h)
    ·exact h
    ·exact absurd (cmp3_zero.2 h.1) c
theorem cfW_neg (a b : List Int) : cfW a b < 0 ↔ wlt a b := by
 unfold cfW wlt
 by_cases c : cmp3 (a.length : Int) b.length = 0
 ·rw [if_pos c, cmpL_neg]
  have := cmp3_zero.1 c
  constructor
  ·intro h; exact .inr ⟨by omega, h⟩
  ·rintro (h | h)
   ·omega
   ·exact h.2
 ·rw [if_neg c, cmp3_neg]
  constructor
  ·intro h; exact .inl (by omega)
  ·rintro (h | h)
   ·omega
   ·exact absurd (cmp3_zero.2 (by omega)) c
theorem cmpS_l0 : ∀ (a b p q : List Int), p.length = q.length → (p ++ a).length ≤ 9223372036854775807 →
  Ev (fun k => slices_Compare_int_int.l0 k (p ++ a) (q ++ b) (p ++ a) ((p ++ a).length : Int) (p.length : Int)) (cmpL a b)
 | [], b, p, q, h, hb => by
  refine Ev.step (fun k => by simp only [slices_Compare_int_int.l0, nlt_end, if_false] <;> exact rfl) ?_
  refine Ev.val ?_
  cases b with
  | nil => rw [if_neg (by simp; omega)]; rfl
  | cons y b => rw [if_pos (by simp; omega)]; rfl
 | x :: a, [], p, q, h, hb => by
  have h2 : (p.length : Int) ≥ ((q ++ []).length : Int) := by simp; omega
  refine Ev.step (fun k => by simp only [slices_Compare_int_int.l0, lt_mid, nn, if_true, if_pos h2] <;> exact rfl) ?_
  exact Ev.val rfl
 | x :: a, y :: b, p, q, h, hb => by
  have h2 : ¬ (p.length : Int) ≥ ((q ++ y :: b).length : Int) := by simp; omega
  have h3 : (p.length : Int) < ((q ++ y :: b).length : Int) := by simp; omega
  have e1 : rd (q ++ y :: b) (p.length : Int) = y := by rw [h]; exact rd_mid q y b
  have w : wrap64 ((p.length : Int) + 1) = ((p ++ [x]).length : Int) := by
   rw [List.length_append, List.length_cons] at hb
   rw [w64 (by omega) (by omega)]; simp
  refine Ev.step (fun k => by simp only [slices_Compare_int_int.l0, lt_mid, nn, if_true, if_neg h2, if_pos h3, rd_mid, e1, cmp_eq, Option.bind_some, w] <;> exact rfl) ?_
  unfold cmpL
  by_cases c : cmp3 x y = 0
  ·simp only [if_pos c]
   rw [app_one p x a, app_one q y b]
   exact cmpS_l0 a b (p ++ [x]) (q ++ [y]) (by simp [h]) (by rw [← app_one]; exact hb)
  ·simp only [if_neg c]
   exact Ev.val rfl
theorem cmpS_ev (a b : List Int) (ha : a.length ≤ 9223372036854775807) : Ev (fun k => slices_Compare_int_int.f k a b) (cmpL a b) := by
 unfold slices_Compare_int_int.f
 exact cmpS_l0 a b [] [] rfl ha
theorem lit2_grow {P : Program} {ops : Array Oper} {rest : List Oper} {o : Oper} {a : Act} {Q : Exit → Act → World → Prop} {W V : World} {x y : Int} {e : Nat} (hgd : o.guard = none)
  (hrun : (execOp a.eval o).run P V = .ok (.value (.slice (some ⟨V.heap.size, 0, none⟩) 2 2)) (V.alloc (.cells #[.int .i64 x, .int .i64 y] e))) (hV : ∃ q, V = W.drewN q)
  (h : ∀ ad w1, Kd.C (Kd.int .i64) w1 (some ad) [x, y].length [x, y] → (∃ q os, w1 = grow (W.drewN q) os) → wpList P ops Q rest (a.put o.dst (.slice (some ad) 2 2)) w1) : wpList P ops Q (o :: rest) a V := by
 refine Kd.event_run hgd hrun (h ⟨V.heap.size, 0, none⟩ _ ?_ ?_)
 ·have bn := blk_new V (.cells #[.int .i64 x, .int .i64 y] e (0, 0))
  refine Kd.C_of_reads (d := (0 : Int)) (h1 := fun _ => rfl) ⟨rfl, by simp, fun hn => ⟨_, rfl, fun j hj => ?_⟩⟩
  match j, hj with
  | 0, _ => exact (blk_cell bn 0).trans rfl
  | 1, _ => exact (blk_cell bn 1).trans rfl
 ·obtain ⟨q, rfl⟩ := hV
  exact ⟨q, _, alloc_eq_grow _ _⟩
set_option maxHeartbeats 4000000 in
set_option maxRecDepth 100000 in
theorem wayOrder_at (A0 : Option Addr) (c0 : Nat) (l0 : List Int) (A1 : Option Addr) (c1 : Nat) (l1 : List Int) (W : World) (hr0 : Kd.C (Kd.int .i64) W A0 l0.length l0) (hc0 : l0.length ≤ c0) (hr1 : Kd.C (Kd.int .i64) W A1 l1.length l1) (hc1 : l1.length ≤ c1) :
  Calls Try.prog 77 #[.slice A0 l0.length c0, .slice A1 l1.length c1] W fun e w' => e = .returned (.int .i64 (cfW l0 l1)) ∧ ∃ q os', w' = grow (W.drewN q) os' := by
 obtain ⟨k, hk⟩ := Ev.rounds (cmpS_ev l0 l1 hr0.2.1)
 obtain ⟨k2, hk2⟩ := Ev.rounds (or_two (cmp3 l0.length l1.length) (cmpL l0 l1))
 obtain ⟨r, hr⟩ : ∃ r : Int, (if cmp3 l0.length l1.length = 0 then cmpL l0 l1 else cmp3 l0.length l1.length) = r := ⟨_, rfl⟩
 rw [hr] at hk2
 have HR0 := Aside0.mk hr0
 have HC0 := Aside0.mk hc0
 have HR1 := Aside0.mk hr1
 have HC1 := Aside0.mk hc1
 have A3 := Aside0.mk (cmp_eq l0.length l1.length)
 have A4 := Aside0.mk hk
 have A5 := Aside0.mk hk2
 have HR := Aside0.mk hr
 clear hr0 hc0 hr1 hc1 hk hk2 hr
 go_enter Try.func77, Try.ntmps77
 go_wp2_with (first
  | ((with_reducible refine gate_callee (f := 90) rfl ?_); refine goesL_ (some 9) rfl rfl Try.func90 (by kernel_rfl) rfl #[.int .i64 (l0.length : Int), .int .i64 (l1.length : Int)] rfl (G.ar) ?_; (with_reducible refine (cmp_Compare_int.calls (l0.length : Int) (l1.length : Int) _ _ A3.out).mono ?_); rintro e w' ⟨rfl, ⟨nd, rfl⟩⟩; refine ⟨_, rfl, ?_⟩)
  | ((with_reducible refine gate_callee (f := 91) rfl ?_); refine goesL_ (some 12) rfl rfl Try.func91 (by kernel_rfl) rfl #[.slice A0 l0.length c0, .slice A1 l1.length c1] rfl (G.ar) ?_; (with_reducible refine (slices_Compare_int_int.calls k _ _ l0 _ _ l1 _ _ ?side1 ?side2 ?side3 ?side4 A4.out).mono ?_); (case side1 => repeat (first | exact HR0.out | (with_reducible refine Kd.C_alloc ?_ _) | (with_reducible refine Kd.C_drewN ?_ _) | (with_reducible refine Kd.C_drew ?_))); (case side2 => exact HC0.out); (case side3 => repeat (first | exact HR1.out | (with_reducible refine Kd.C_alloc ?_ _) | (with_reducible refine Kd.C_drewN ?_ _) | (with_reducible refine Kd.C_drew ?_))); (case side4 => exact HC1.out); rintro e w' ⟨rfl, ⟨nd2, rfl⟩⟩; refine ⟨_, rfl, ?_⟩)
  | ((with_reducible refine gate_dst (N := 13) rfl ?_); refine lit2_grow (W := W) (x := cmp3 l0.length l1.length) (y := cmpL l0 l1) (e := 3) rfl (by first | (go_simp; done) | (go_simp; rfl)) ⟨nd + nd2, by simp [World.drewN, Nat.add_assoc]⟩ ?_; intro ad w6 hl_ hg_; have HL := Aside0.mk hl_; have HG := Aside0.mk hg_; clear hl_ hg_)
  | ((with_reducible refine gate_callee (f := 89) rfl ?_); refine goesL_ (some 14) rfl rfl Try.func89 (by kernel_rfl) rfl #[.slice (some ad) 2 2] rfl (G.ar) ?_; (refine (cmp_Or_int.calls k2 (some ad) 2 [cmp3 l0.length l1.length, cmpL l0 l1] r _ ?side1 ?side2 A5.out).mono ?_); (case side1 => exact HL.out); (case side2 => exact Nat.le_refl _); rintro e w' ⟨rfl, ⟨nd3, rfl⟩⟩; refine ⟨_, rfl, ?_⟩))
 go_ret
 refine ⟨?_, ?_⟩
 ·rw [← HR.out]
  rfl
 ·obtain ⟨q, os, e⟩ := HG.out
  rw [e]
  refine ⟨q + nd3, os, ?_⟩
  show grow ((W.drewN q).drewN nd3) _ = _
  congr 1
  simp [World.drewN, Nat.add_assoc]
end Go.Proofs.Ytddadihobjinhaa.P
namespace Go.Proofs.Ytddadihobjinhaa.P
open Go.RowKit Go.Proofs.YtddadihobjinhaaW.PrintWords Go.Proofs.YtddadihobjinhaaW.PrintLast Go.Proofs.YtddadihobjinhaaW.PrintMore
attribute [local go_sem] max2_int min2_int max_two min_two max_three min_three max_four min_four   -- for this text's walks alone
def slices_Clone_int_int.f (l0 : List Int) : Option (List Int) := (some (([] : List Int) : List Int)).bind fun aa => (if aa.length + l0.length < 17592186044416 then (some (aa ++ l0)) else (none))
set_option maxHeartbeats 8000000 in
set_option maxRecDepth 100000 in
theorem slices_Clone_int_int.calls (A0 : Option Addr) (c0 : Nat) (l0 : List Int) (r : List Int) (w : World) (al : Kd.C (Kd.int .i64) w A0 l0.length l0) (am : l0.length ≤ c0) (h : slices_Clone_int_int.f l0 = some r) :
  Calls Try.prog 86 #[.slice A0 l0.length c0] w fun e w' => ∃ ao : Value, e = .returned (ao) ∧ Kd.R (Kd.int .i64) 3 w' w.heap.size (fun _ => True) ao r ∧ Below w.heap.size w w' := by
 have ap := G.m al; have aw := G.m am; clear al am; have HB := G.m (Below.refl w.heap.size w); have H : ((some (([] : List Int) : List Int)).bind fun aa => (if aa.length + l0.length < 17592186044416 then (some (aa ++ l0)) else (none))) = some r := h; clear h; obtain ⟨aa, ab⟩ : ∃ y_ : List Int, y_ = (([] : List Int)) := ⟨_, rfl⟩; replace H : (if aa.length + l0.length < 17592186044416 then (some (aa ++ l0)) else (none)) = some r := by first | (rw [ab]; with_reducible exact H) | (have ae := (Option.bind_some _ _).symm.trans H; rw [ab]; with_reducible exact ae) | (have ae := (Option.bind_some _ _).symm.trans H; with_reducible exact ae) | with_reducible exact H | (rw [ab]; exact H) | exact H
 have af := G.m ab; clear ab
 by_cases c2 : aa.length + l0.length < 17592186044416
 ·rw [if_pos c2] at H; have aq := G.m c2; clear c2; obtain ⟨aj, ac⟩ : ∃ y_ : List Int, y_ = (aa ++ l0) := ⟨_, rfl⟩; replace H : (some aj) = some r := by first | (rw [ac]; with_reducible exact H) | (have ae := (Option.bind_some _ _).symm.trans H; rw [ac]; with_reducible exact ae) | (have ae := (Option.bind_some _ _).symm.trans H; with_reducible exact ae) | with_reducible exact H | (rw [ac]; exact H) | exact H
  have ah := G.m ac; clear ac; obtain rfl := Option.some.inj H; have ax : ∀ (w : World) (a : Option Addr) (n c n' c' : Nat), (binOp .eql 25 (.slice a n c) (.slice none n' c')).run Try.prog w = .ok (.bool a.isNone) w := fun w a n c n' c' => Go.Lib.run_eql_slice_nil w _ _ a n c n' c' Try.underlying25
  rcases A0 with _ | ay
  ·have e0 : l0 = [] := by
    have h_ := ap.out
    rcases l0 with _ | ⟨q, r⟩
    ·rfl
    ·obtain ⟨ad, h, _⟩ := h_.2.2 (by simp); exact absurd h (by simp)
   subst e0; have ey : aj = [] := by rw [ah.out, af.out]; rfl
   subst ey
   go_enter Try.func86, Try.ntmps86
   go_wp2
   go_ret
   exact ⟨_, rfl, Kd.R_nil _ _ _ _ _, G.cB HB.out⟩
  go_enter Try.func86, Try.ntmps86
  go_wp2_with (first | ((with_reducible refine G.h 5 rfl ?_); refine Kd.R_lit (Kd.int .i64) _ 3 ?hg (N := 5) ?hd (xs := ([] : List Int)) (inner := []) (ok := fun _ => True) (okp := fun _ => True) ?hr ?hp (fun _ hk => hk) trivial (Below.refl _ _) (Nat.le_refl _) (by simp) ?_; (case hd => rfl); (case hg => rfl); (case hr => first | (go_simp; done) | (go_simp; rfl)); (case hp => exact (Reps.none _ _)); intro au w3 ag hb hg_ hnew_; clear hg_ hnew_; (first | rw [← af.out] at ag | (simp only [Int.reduceToNat] at ag; rw [← af.out] at ag)); have n0 := G.m (Kd.R_lower ag (below_size (G.cB HB.out))); have n1 := G.bs HB hb; clear HB; revert n0 n1; intro ai HB; clear hb ag) | ((with_reducible refine gate_builtin (b := .append) (xs := #[.tmp 5, .tmp 6]) rfl ?_); at_builtin; refine Kd.R_append_rows (Kd.int .i64) (w0 := w) w.heap.size rfl (.tmp 5) (.tmp 6) 25 3 (.int .i64 0) 8 rfl Try.underlying25 info3 rfl (by decide) (by omega) au aa l0 _ _ _ (fun _ => True) (fun _ => False) rfl rfl ?aO ?aR (fun _ _ h => h) (fun _ h => h.elim) ?aF ?aB ?aS ?aL ?_; (case aR => exact G.cC (Kd.C_below ap.out HB.out)); (case aB => exact (G.cB HB.out)); (case aF => exact (fun _ _ => trivial)); (case aO => exact (G.cR ai.out)); (case aS => exact (below_size (G.cB HB.out))); (case aL => have := aq.out; omega); intro av w5 ho hb hg hat; rw [← ah.out] at ho; have n0 := G.m (hb); have n1 := G.m (ho); clear HB ai; revert n0 n1; intro HB ak; clear ho hb hg hat))
  go_ret
  exact ⟨_, by first | rfl | (simp [errW_none, errW_some] <;> rfl) | (simp [*, errW_none, errW_some] <;> rfl), G.cR ak.out, G.cB HB.out⟩
 ·rw [if_neg c2] at H; exact absurd H (by simp)
end Go.Proofs.Ytddadihobjinhaa.P
namespace Go.Proofs.Ytddadihobjinhaa.P
open Go.RowKit Go.Proofs.YtddadihobjinhaaW.PrintWords
theorem grown_of_below {w w1 : World} (h : Below w.heap.size w w1) (row : Option Nat) : w.grownBy w1 row := ⟨h.os, h.tape, h.output, h.size, fun k hk _ => h.block k hk⟩
structure LX (w0 w : World) (A1 : Option Addr) (c1 : Nat) (l1 : List Int) (vo v : Value) (out : List (List Int)) (W : World) : Prop where
 b : Below w0.heap.size w0 W
 way : Kd.R (Kd.int .i64) 3 W w0.heap.size (fun _ => True) (.slice A1 l1.length c1) l1
 row : Kd.S (Kd.slice 3 (Kd.int .i64)) 25 W w0.heap.size (fun _ => True) v out
 g : w.grownBy W vo.ownBlock
 at_ : v.ownBlock = vo.ownBlock ∨ ∃ b, v.ownBlock = some b ∧ w.heap.size ≤ b
section
variable {w0 w W W' : World} {A1 : Option Addr} {c1 : Nat} {l1 : List Int} {vo v v1 : Value} {out out1 : List (List Int)}
theorem LX.start (hb : Below w0.heap.size w0 w) (h1 : Kd.R (Kd.int .i64) 3 w w0.heap.size (fun _ => True) (.slice A1 l1.length c1) l1) (h2 : Kd.S (Kd.slice 3 (Kd.int .i64)) 25 w w0.heap.size (fun _ => True) vo out) : LX w0 w A1 c1 l1 vo vo out w :=
 ⟨hb, h1, h2, grown_of_below (Below.refl _ _) _, .inl rfl⟩
theorem LX.below (h : LX w0 w A1 c1 l1 vo v out W) (hb : Below W.heap.size W W') : LX w0 w A1 c1 l1 vo v out W' :=
 ⟨below_step h.b hb, Kd.R_below h.way hb, Kd.S_below h.row hb, World.grownBy.trans h.g (grown_of_below hb _), h.at_⟩
theorem LX.fin (h : LX w0 w A1 c1 l1 vo v out W) : Kd.S (Kd.slice 3 (Kd.int .i64)) 25 W w0.heap.size (fun _ => True) v out ∧ Below w0.heap.size w0 W ∧ w.grownBy W vo.ownBlock ∧ (v.ownBlock = vo.ownBlock ∨ ∃ b, v.ownBlock = some b ∧ w.heap.size ≤ b) := ⟨h.row, h.b, h.g, h.at_⟩
theorem LX.step (h : LX w0 w A1 c1 l1 vo v out W) (hS : Kd.S (Kd.slice 3 (Kd.int .i64)) 25 W' w0.heap.size (fun _ => True) v1 out1) (hb : Below w0.heap.size w0 W') (hg : W.grownBy W' v.ownBlock) (hat : v1.ownBlock = v.ownBlock ∨ ∃ b, v1.ownBlock = some b ∧ W.heap.size ≤ b) : LX w0 w A1 c1 l1 vo v1 out1 W' := by
 refine ⟨hb, Kd.R_over' h.way (Kd.S_typed h.row) (by decide) hg, hS, ⟨hg.os.trans h.g.os, hg.tape.trans h.g.tape, hg.output.trans h.g.output, Nat.le_trans h.g.size hg.size, fun k hk hne => ?_⟩, ?_⟩
 ·refine (hg.block k (Nat.lt_of_lt_of_le hk h.g.size) (fun e => ?_)).trans (h.g.block k hk hne)
  rcases h.at_ with q | ⟨b, q, hb⟩
  ·exact hne (e.trans q)
  ·rw [q] at e
   injection e with e
   omega
 ·rcases hat with q | ⟨b, q, hb2⟩
  ·rw [q]; exact h.at_
  ·exact .inr ⟨b, q, Nat.le_trans h.g.size hb2⟩
theorem LX.app {w1 : World} (hB : Below w.heap.size w w1) (ho : Kd.S (Kd.slice 3 (Kd.int .i64)) 25 W w0.heap.size (fun _ => True) v out) (hb : Below w0.heap.size w0 W) (hg : w1.grownBy W vo.ownBlock) (hat : v.ownBlock = vo.ownBlock ∨ ∃ b, v.ownBlock = some b ∧ w1.heap.size ≤ b) : Kd.S (Kd.slice 3 (Kd.int .i64)) 25 W w0.heap.size (fun _ => True) v out ∧ Below w0.heap.size w0 W ∧ w.grownBy W vo.ownBlock ∧ (v.ownBlock = vo.ownBlock ∨ ∃ b, v.ownBlock = some b ∧ w.heap.size ≤ b) :=
 ⟨ho, hb, World.grownBy.trans (grown_of_below hB _) hg, hat.imp id (fun ⟨b, e1, e2⟩ => ⟨b, e1, Nat.le_trans hB.size e2⟩)⟩
end
end Go.Proofs.Ytddadihobjinhaa.P
namespace Go.Proofs.Ytddadihobjinhaa.P
open Go.RowKit Go.Proofs.YtddadihobjinhaaW.PrintWords Go.Proofs.YtddadihobjinhaaW.PrintLast Go.Proofs.YtddadihobjinhaaW.PrintMore
attribute [local go_sem] max2_int min2_int max_two min_two max_three min_three max_four min_four
mutual
def impl_Net_ways.l0 : Nat → List Int → Int → List (List Int) → Int → Int → Int → Int → List (S53) → Option (List (List Int))
 | 0, _, _, _, _, _, _, _, _ => none
 | k + 1, x1, x2, x3, x9, x26, x27, x417000, x417001 => if x27 < x26 then ((impl_Net_has.f k x417000 x417001 x9 x27).bind fun t421 => (if t421 = true then ((slices_Contains_int_int.f k x1 x27).bind fun t422 => (impl_Net_ways.j1 k x1 x2 x3 x9 x27 x26 x27 (!t422) x417000 x417001)) else (impl_Net_ways.j1 k x1 x2 x3 x9 x27 x26 x27 false x417000 x417001))) else (some x3)
def impl_Net_ways.j1 : Nat → List Int → Int → List (List Int) → Int → Int → Int → Int → Bool → Int → List (S53) → Option (List (List Int))
 | 0, _, _, _, _, _, _, _, _, _, _ => none
 | k + 1, x1, x2, x3, x9, x10, x26, x27, x39, x417000, x417001 => if x39 = true then ((slices_Clone_int_int.f x1).bind fun t423 => ((some (([x10] : List Int) : List Int)).bind fun y426 => (if t423.length + y426.length < 17592186044416 then ((impl_Net_ways.f k x417000 x417001 (t423 ++ y426) x2 x3).bind fun t432 => (impl_Net_ways.l0 k x1 x2 t432 x9 x26 (wrap64 (x27 + 1)) x417000 x417001)) else (none)))) else (impl_Net_ways.l0 k x1 x2 x3 x9 x26 (wrap64 (x27 + 1)) x417000 x417001)
def impl_Net_ways.f : Nat → Int → List (S53) → List Int → Int → List (List Int) → Option (List (List Int))
 | 0, _, _, _, _, _ => none
 | k + 1, a0_0, l0_1, l1, a2, a3 => if 0 ≤ (wrap64 ((l1.length : Int) - 1)) then (if (wrap64 ((l1.length : Int) - 1)) < (l1.length : Int) then (if (rd l1 (wrap64 ((l1.length : Int) - 1))) = a2 then ((slices_Clone_int_int.f l1).bind fun t418 => (if a3.length < 5864062014805 then (some (a3 ++ [t418])) else (none))) else (impl_Net_ways.l0 k l1 a2 a3 (rd l1 (wrap64 ((l1.length : Int) - 1))) a0_0 0 a0_0 l0_1)) else (none)) else (none)
end
def impl_Net_ways.T8 : Bool × List (List Nat × List Nat) := (true, [([], []), ([], []), ([1], [1]), ([], []), ([3], [3]), ([2, 4, 2], [2, 4]), ([], []), ([], []), ([0, 5, 6, 7, 5], [0, 5, 6, 7]), ([8, 8, 0, 1, 2, 3, 4, 5, 6, 7, 8], [7, 8])])
def impl_Net_ways.B8 : List Nat := [0, 0, 2, 0, 8, 30, 0, 0, 255, 511]
theorem impl_Net_ways.tab8 : rtab .any (opsOf Try.f75 8) = impl_Net_ways.T8 := by kernel_rfl
theorem impl_Net_ways.bits8 : waitsOk impl_Net_ways.T8.2 impl_Net_ways.B8 = true := by kernel_rfl
set_option maxHeartbeats 8000000 in
set_option maxRecDepth 100000 in
theorem impl_Net_ways.calls (k : Nat) : ∀ (a0_0 : Int) (A0_1 : Option Addr) (c0_1 : Nat) (l0_1 : List (S53)) (A1 : Option Addr) (c1 : Nat) (l1 : List Int) (a2 : Int) (vo : Value) (a3 : List (List Int)) (r : List (List Int)) (w0 w : World) (hr0_1 : Kd.C k53 w0 A0_1 l0_1.length l0_1) (hc0_1 : l0_1.length ≤ c0_1) (hB0 : Below w0.heap.size w0 w) (hX : Kd.R (Kd.int .i64) 3 w w0.heap.size (fun _ => True) (.slice A1 l1.length c1) l1 ∧ Kd.S (Kd.slice 3 (Kd.int .i64)) 25 w w0.heap.size (fun _ => True) vo a3) (h : impl_Net_ways.f k a0_0 l0_1 l1 a2 a3 = some r),
  Calls Try.prog 75 #[.agg #[.int .i64 a0_0, .slice A0_1 l0_1.length c0_1], .slice A1 l1.length c1, .int .i64 a2, vo] w fun e w' => ∃ v1_ : Value, e = .returned v1_ ∧ Kd.S (Kd.slice 3 (Kd.int .i64)) 25 w' w0.heap.size (fun _ => True) v1_ r ∧ Below w0.heap.size w0 w' ∧ w.grownBy w' vo.ownBlock ∧ (v1_.ownBlock = vo.ownBlock ∨ ∃ b, v1_.ownBlock = some b ∧ w.heap.size ≤ b) := by
 induction k using Nat.strongRecOn with
 | _ k ih =>
 intro a0_0 A0_1 c0_1 l0_1 A1 c1 l1 a2 vo a3 r w0 w hr0_1 hc0_1 hB0 hX h
 cases k with
 | zero => exact absurd h (by simp [impl_Net_ways.f])
 | succ k =>
 simp only [impl_Net_ways.f] at h
 have hu30 := Try.underlying30
 have HRA := G.m hr0_1
 have HR0_1 := G.m (Kd.C_below hr0_1 hB0)
 have HC0_1 := G.m hc0_1
 clear hr0_1 hc0_1
 have HB0 := G.m hB0
 have HX := G.m (LX.start hB0 hX.1 hX.2)
 have HR1 := G.m (Kd.R_reads' hX.1).2.2
 have HC1 := G.m (Kd.R_reads' hX.1).2.1
 clear hB0 hX
 have HB := G.m (Below.refl w.heap.size w)
 have H : (if 0 ≤ (wrap64 ((l1.length : Int) - 1)) then (if (wrap64 ((l1.length : Int) - 1)) < (l1.length : Int) then (if (rd l1 (wrap64 ((l1.length : Int) - 1))) = a2 then ((slices_Clone_int_int.f l1).bind fun t418 => (if a3.length < 5864062014805 then (some (a3 ++ [t418])) else (none))) else (impl_Net_ways.l0 k l1 a2 a3 (rd l1 (wrap64 ((l1.length : Int) - 1))) a0_0 0 a0_0 l0_1)) else (none)) else (none)) = some r := h
 clear h
 obtain ⟨ji5, hji5⟩ : ∃ j_ : Int, (wrap64 ((l1.length : Int) - 1)) = j_ := ⟨_, rfl⟩
 replace H : (if 0 ≤ (ji5) then (if (ji5) < (l1.length : Int) then (if (rd l1 (ji5)) = a2 then ((slices_Clone_int_int.f l1).bind fun t418 => (if a3.length < 5864062014805 then (some (a3 ++ [t418])) else (none))) else (impl_Net_ways.l0 k l1 a2 a3 (rd l1 (ji5)) a0_0 0 a0_0 l0_1)) else (none)) else (none)) = some r := by first | (rw [hji5] at H; exact H) | (simp only [hji5] at H ⊢; exact H)
 have hji5w : (IntKind.i64.wrap ((l1.length : Int) - 1)) = ji5 := (i64_w _).trans hji5
 by_cases c6 : 0 ≤ (ji5)
 ·rw [if_pos c6] at H
  have c6b0 : decide (0 ≤ (ji5)) = true := decide_eq_true c6
  clear c6
  by_cases c7 : (ji5) < (l1.length : Int)
  ·rw [if_pos c7] at H
   have c7b0 : decide ((ji5) < (l1.length : Int)) = true := decide_eq_true c7
   clear c7
   by_cases c8 : (rd l1 (ji5)) = a2
   ·rw [if_pos c8] at H
    have c8b0 : ((rd l1 (ji5)) == a2) = true := beq_iff_eq.mpr c8
    have c8b1 : ((rd l1 (ji5)) != a2) = false := bne_eq_false_iff_eq.mpr c8
    clear c8
    obtain ⟨t418, A9, H⟩ := G.bi H
    replace H : (if a3.length < 5864062014805 then (some (a3 ++ [t418])) else (none)) = some r := H
    by_cases cLw : a3.length < 5864062014805
    ·rw [if_pos cLw] at H
     have LMw := G.m cLw
     clear cLw
     obtain rfl := Option.some.inj H
     go_enter Try.func75, Try.ntmps75
     go_wp2_with (first | ((with_reducible refine G.h 4 rfl ?_); refine G.be 4 #[.int .i64 a0_0, .slice A0_1 l0_1.length c0_1] 30 ?_; intro gb416 hg w10 hbox hb; have n0 := G.bs HB hb; have n1 := G.m (hbox); have n2 := G.m ((by rw [hg]; exact (below_size (G.cB HB.out)) : w.heap.size ≤ gb416)); have n3 := G.m ((by rw [hg]; exact (below_size (G.cB HB.out)) : w.heap.size ≤ gb416)); clear HB; revert n0 n1 n2 n3; intro HB BK416 GW416 GE416; clear hb hbox hg; have p417 : 0 ≤ ((ji5) : Int) := of_decide_eq_true (G.asm); have q417 : (ji5) < (l1.length : Int) := of_decide_eq_true (G.asm); obtain ⟨ad417, e417, hx417_0⟩ := Kd.at_int HR1.out (ji5) p417 q417; cases e417; replace hx417_0 := G.hx HB hx417_0; replace p417 := eq_true p417; replace q417 := eq_true q417) | ((with_reducible refine G.f 86 rfl ?_); refine G.gL 22 Try.func86 #[.slice (some ad417) l1.length c1] ?_; (with_reducible refine (slices_Clone_int_int.calls _ _ l1 t418 _ ?side1 ?side2 A9.out).mono ?_); (case side1 => exact G.cC (Kd.C_below HR1.out HB.out)); (case side2 => exact HC1.out); rintro e w11 ⟨v419, rfl, ho0, hb⟩; refine ⟨_, rfl, ?_⟩; have n0 := G.m (Kd.R_lower ho0 (below_size (G.cB HB.out))); have n1 := G.bb BK416 hb; have n2 := G.bs HB hb; clear BK416 HB; revert n0 n1 n2; intro HO420 BK416 HB; (try clear hb ho0); obtain ⟨Aow, cow, eow⟩ := Kd.R_slice HO420.out; subst eow) | ((with_reducible refine gate_builtin (b := .append) (xs := #[.tmp 20, .tmp 23]) rfl ?_); at_builtin; refine Kd.S_append (Kd.slice 3 (Kd.int .i64)) (w0 := w0) w0.heap.size rfl (.tmp 20) (.tmp 23) 63 25 (.slice none 0 0) 24 rfl Try.underlying63 info25 rfl (by decide) (by omega) vo a3 t418 [.slice Aow t418.length cow] (fun _ => True) (fun k_ => some k_ = (.slice Aow t418.length cow : Value).ownBlock) rfl rfl ?aP (fun k_ hk_ => ⟨trivial, fun e_ => by have h1_ := Kd.S_lt HX.out.row k_ e_.symm; have h2_ := Kd.R_base HO420.out k_ hk_.symm; omega⟩) ?aF ?aO ?aB ?aS ?aL ?_; (case aP => exact Kd.M_row (Kd.R_mono (Kd.R_tight rfl (Kd.R_lower HO420.out HB0.out.size)) (fun _ h_ => h_))); (case aB => exact (below_step HB0.out (G.cB HB.out))); (case aF => exact (fun _ _ => trivial)); (case aO => exact Kd.S_mono (Kd.S_below (Kd.S_bound HX.out.row) (G.cB HB.out)) (fun k_ hk => ⟨trivial, fun e_ => by have h2_ := Kd.R_base HO420.out k_ e_.symm; have h3_ := hk.2.2.1; omega⟩)); (case aS => exact Nat.le_trans HB0.out.size (below_size (G.cB HB.out))); (case aL => have := LMw.out; omega); intro vw_ ww_ ho hb hg hat; have HF := G.m (LX.app (G.cB HB.out) ho hb hg hat); clear ho hb hg hat BK416 HB))
     go_ret
     exact ⟨_, by first | rfl | (simp [errW_none, errW_some] <;> rfl), HF.out⟩
    ·rw [if_neg cLw] at H
     exact absurd H (by simp)
   ·rw [if_neg c8] at H
    have c8b0 : ((rd l1 (ji5)) == a2) = false := beq_eq_false_iff_ne.mpr c8
    have c8b1 : ((rd l1 (ji5)) != a2) = true := bne_iff_ne.mpr c8
    have H' := G.m H
    clear H
    go_enter Try.func75, Try.ntmps75
    go_wp2_with (first | ((with_reducible refine G.h 4 rfl ?_); refine G.be 4 #[.int .i64 a0_0, .slice A0_1 l0_1.length c0_1] 30 ?_; intro gb416 hg w12 hbox hb; have n0 := G.bs HB hb; have n1 := G.m (hbox); have n2 := G.m ((by rw [hg]; exact (below_size (G.cB HB.out)) : w.heap.size ≤ gb416)); have n3 := G.m ((by rw [hg]; exact (below_size (G.cB HB.out)) : w.heap.size ≤ gb416)); clear HB; revert n0 n1 n2 n3; intro HB BK416 GW416 GE416; clear hb hbox hg; have p417 : 0 ≤ ((ji5) : Int) := of_decide_eq_true (G.asm); have q417 : (ji5) < (l1.length : Int) := of_decide_eq_true (G.asm); obtain ⟨ad417, e417, hx417_0⟩ := Kd.at_int HR1.out (ji5) p417 q417; cases e417; replace hx417_0 := G.hx HB hx417_0; replace p417 := eq_true p417; replace q417 := eq_true q417; have ⟨hcz13_0, hcz13_1, hfz13_0, hfz13_1⟩ := G.d2 (w := w12) BK416))
    go_loopg [3, 27] k (fun kq v3 v27 w' => ∃ (vq : Value) (x3_1 : List (List Int)) (x27_1 : Int), vq = v3 ∧ v27 = .int .i64 x27_1 ∧ Aside0 (impl_Net_ways.l0 kq l1 a2 x3_1 (rd l1 (ji5)) a0_0 x27_1 a0_0 l0_1 = some r) ∧ Aside0 (kq ≤ k) ∧ Aside0 (w'.heap[gb416]? = some (.cells #[.int .i64 a0_0, (.slice A0_1 l0_1.length c0_1)] 30 (0, 0))) ∧ Aside0 (LX w0 w (some ad417) c1 l1 vo vq x3_1 w'))
    case atStart => exact ⟨vo, a3, (0), rfl, (by first | rfl | (simp; done) | (simp [*]; done)), H', ⟨Nat.le_refl _⟩, ⟨G.cb BK416.out⟩, ⟨LX.below HX.out (G.cB HB.out)⟩⟩
    case round =>
     clear H'
     (try clear c1 c6b0 c7b0 c8 c8b0 c8b1 hcz13_0 hcz13_1 hfz13_0 hfz13_1 hx417_0 p417 q417)
     obtain ⟨vq, x3_1, x27_1, rfl, rfl, HA, HK1, BK416, HL⟩ := hrel
     clear HR0_1 HR1 HB
     have HR0_1 := G.m (Kd.C_below HRA.out HL.out.b)
     have HR1 := G.m (Kd.R_reads' HL.out.way).2.2
     have HB := G.m (Below.refl wr.heap.size wr)
     cases gk with
     | zero => exact absurd HA.out (by simp [impl_Net_ways.l0])
     | succ k1 =>
      have H := HA.out
      clear HA
      simp only [impl_Net_ways.l0] at H
      by_cases c14 : x27_1 < a0_0
      ·rw [if_pos c14] at H
       have c14b0 : decide (x27_1 < a0_0) = true := decide_eq_true c14
       clear c14
       have HC15 := G.m H
       clear H
       go_upto_region 7 with (fail)
       go_cut [39] (fun v39 wc => ∃ (kq : Nat) (x39_14 : Bool), v39 = .bool x39_14 ∧ Aside0 (impl_Net_ways.j1 kq l1 a2 x3_1 (rd l1 (ji5)) x27_1 a0_0 x27_1 x39_14 a0_0 l0_1 = some r) ∧ Aside0 (kq ≤ k1) ∧ Aside0 (wc.heap[gb416]? = some (.cells #[.int .i64 a0_0, (.slice A0_1 l0_1.length c0_1)] 30 (0, 0))) ∧ Aside0 (Below wr.heap.size wr wc))
       case first =>
        have H := HC15.out
        clear HC15
        obtain ⟨t421, A16, H⟩ := G.bi H
        replace H : (if t421 = true then ((slices_Contains_int_int.f k1 l1 x27_1).bind fun t422 => (impl_Net_ways.j1 k1 l1 a2 x3_1 (rd l1 (ji5)) x27_1 a0_0 x27_1 (!t422) a0_0 l0_1)) else (impl_Net_ways.j1 k1 l1 a2 x3_1 (rd l1 (ji5)) x27_1 a0_0 x27_1 false a0_0 l0_1)) = some r := H
        by_cases c17 : t421 = true
        ·subst c17
         have H1 : ((slices_Contains_int_int.f k1 l1 x27_1).bind fun t422 => (impl_Net_ways.j1 k1 l1 a2 x3_1 (rd l1 (ji5)) x27_1 a0_0 x27_1 (!t422) a0_0 l0_1)) = some r := by rw [if_pos rfl] at H; exact H
         clear H
         have H := H1
         clear H1
         obtain ⟨t422, A18, H⟩ := G.bi H
         replace H : (impl_Net_ways.j1 k1 l1 a2 x3_1 (rd l1 (ji5)) x27_1 a0_0 x27_1 (!t422) a0_0 l0_1) = some r := H
         have H' := G.m H
         clear H
         have ⟨hcz19_0, hcz19_1, hfz19_0, hfz19_1⟩ := G.d2 (w := wr) BK416
         go_wp2_with (first | ((with_reducible refine gate_callee (f := 63) rfl ?_); refine goesL_ (some 33) rfl rfl Try.func63 (by kernel_rfl) rfl #[.agg #[.int .i64 a0_0, .slice A0_1 l0_1.length c0_1], .int .i64 (rd l1 (ji5)), .int .i64 x27_1] rfl ((by (try simp only [List.map_toArray, List.map_cons, List.map_nil]); first | done | (simp only [hji5]; rfl) | rfl | (simp only [List.length_drop, List.length_take]; rfl))) ?_; (with_reducible refine (impl_Net_has.calls k1 a0_0 _ _ l0_1 (rd l1 (ji5)) x27_1 true _ ?side1 ?side2 A16.out).mono ?_); (case side1 => exact G.cC (Kd.C_below HR0_1.out HB.out)); (case side2 => exact HC0_1.out); rintro e w20 ⟨rfl, hb⟩; refine ⟨_, rfl, ?_⟩; have n0 := G.bb BK416 hb; have n1 := G.bs HB hb; clear BK416 HB; revert n0 n1; intro BK416 HB; (try clear hb)) | (go_at_call 82; (with_reducible refine (slices_Contains_int_int.calls k1 _ _ l1 x27_1 t422 _ ?side1 ?side2 A18.out).mono ?_); (case side1 => exact G.cC (Kd.C_below HR1.out HB.out)); (case side2 => exact HC1.out); rintro e w' ⟨rfl, ⟨nd, rfl⟩⟩))
         go_meet
         case rel => exact ⟨_, (!t422), ((by first | rfl | (simp; done) | (simp [*]; done))), H', ⟨by have := HK1.out; first | omega | exact Nat.le_refl _⟩, ⟨G.cb BK416.out⟩, ⟨G.cB HB.out⟩⟩
        ·replace c17 := Bool.eq_false_iff.mpr c17
         subst c17
         have H1 : (impl_Net_ways.j1 k1 l1 a2 x3_1 (rd l1 (ji5)) x27_1 a0_0 x27_1 false a0_0 l0_1) = some r := by rw [if_neg (show ¬ (false = true) by decide)] at H; exact H
         clear H
         have H := H1
         clear H1
         have H' := G.m H
         clear H
         have ⟨hcz21_0, hcz21_1, hfz21_0, hfz21_1⟩ := G.d2 (w := wr) BK416
         go_wp2_with (first | ((with_reducible refine gate_callee (f := 63) rfl ?_); refine goesL_ (some 33) rfl rfl Try.func63 (by kernel_rfl) rfl #[.agg #[.int .i64 a0_0, .slice A0_1 l0_1.length c0_1], .int .i64 (rd l1 (ji5)), .int .i64 x27_1] rfl ((by (try simp only [List.map_toArray, List.map_cons, List.map_nil]); first | done | (simp only [hji5]; rfl) | rfl | (simp only [List.length_drop, List.length_take]; rfl))) ?_; (with_reducible refine (impl_Net_has.calls k1 a0_0 _ _ l0_1 (rd l1 (ji5)) x27_1 false _ ?side1 ?side2 A16.out).mono ?_); (case side1 => exact G.cC (Kd.C_below HR0_1.out HB.out)); (case side2 => exact HC0_1.out); rintro e w22 ⟨rfl, hb⟩; refine ⟨_, rfl, ?_⟩; have n0 := G.bb BK416 hb; have n1 := G.bs HB hb; clear BK416 HB; revert n0 n1; intro BK416 HB; (try clear hb)))
         go_meet
         case rel => exact ⟨_, (false), ((by first | rfl | (simp; done) | (simp [*]; done))), H', ⟨by have := HK1.out; first | omega | exact Nat.le_refl _⟩, ⟨G.cb BK416.out⟩, ⟨G.cB HB.out⟩⟩
       case rest =>
        clear HC15
        (try clear c14b0)
        obtain ⟨kq, x39_14, rfl, HA, HJ14, BK416, HB⟩ := hcut
        cases kq with
        | zero => exact absurd HA.out (by simp [impl_Net_ways.j1])
        | succ kj14 =>
         have H := HA.out
         clear HA
         simp only [impl_Net_ways.j1] at H
         by_cases c23 : x39_14 = true
         ·subst c23
          have H1 : ((slices_Clone_int_int.f l1).bind fun t423 => ((some (([x27_1] : List Int) : List Int)).bind fun y426 => (if t423.length + y426.length < 17592186044416 then ((impl_Net_ways.f kj14 a0_0 l0_1 (t423 ++ y426) a2 x3_1).bind fun t432 => (impl_Net_ways.l0 kj14 l1 a2 t432 (rd l1 (ji5)) a0_0 (wrap64 (x27_1 + 1)) a0_0 l0_1)) else (none)))) = some r := by rw [if_pos rfl] at H; exact H
          clear H
          have H := H1
          clear H1
          obtain ⟨t423, A24, H⟩ := G.bi H
          replace H : ((some (([x27_1] : List Int) : List Int)).bind fun y426 => (if t423.length + y426.length < 17592186044416 then ((impl_Net_ways.f kj14 a0_0 l0_1 (t423 ++ y426) a2 x3_1).bind fun t432 => (impl_Net_ways.l0 kj14 l1 a2 t432 (rd l1 (ji5)) a0_0 (wrap64 (x27_1 + 1)) a0_0 l0_1)) else (none))) = some r := H
          obtain ⟨y426, hy426⟩ : ∃ y_ : List Int, y_ = (([x27_1] : List Int)) := ⟨_, rfl⟩
          replace H : (if t423.length + y426.length < 17592186044416 then ((impl_Net_ways.f kj14 a0_0 l0_1 (t423 ++ y426) a2 x3_1).bind fun t432 => (impl_Net_ways.l0 kj14 l1 a2 t432 (rd l1 (ji5)) a0_0 (wrap64 (x27_1 + 1)) a0_0 l0_1)) else (none)) = some r := by first | (rw [hy426]; with_reducible exact H) | (have H2_ := (Option.bind_some _ _).symm.trans H; rw [hy426]; with_reducible exact H2_) | (have H2_ := (Option.bind_some _ _).symm.trans H; with_reducible exact H2_) | with_reducible exact H | (rw [hy426]; exact H) | exact H
          have Ny426 := G.m hy426
          clear hy426
          by_cases c25 : t423.length + y426.length < 17592186044416
          ·rw [if_pos c25] at H
           have LMc25 := G.m c25
           clear c25
           obtain ⟨y429, hy429⟩ : ∃ y_ : List Int, y_ = (t423 ++ y426) := ⟨_, rfl⟩
           replace H : ((impl_Net_ways.f kj14 a0_0 l0_1 y429 a2 x3_1).bind fun t432 => (impl_Net_ways.l0 kj14 l1 a2 t432 (rd l1 (ji5)) a0_0 (wrap64 (x27_1 + 1)) a0_0 l0_1)) = some r := by first | (rw [hy429]; with_reducible exact H) | (have H2_ := (Option.bind_some _ _).symm.trans H; rw [hy429]; with_reducible exact H2_) | (have H2_ := (Option.bind_some _ _).symm.trans H; with_reducible exact H2_) | with_reducible exact H | (rw [hy429]; exact H) | exact H
           have Ny429 := G.m hy429
           clear hy429
           obtain ⟨t432, A26, H⟩ := G.bi H
           replace H : (impl_Net_ways.l0 kj14 l1 a2 t432 (rd l1 (ji5)) a0_0 (wrap64 (x27_1 + 1)) a0_0 l0_1) = some r := H
           have H' := G.m H
           clear H
           try go_wp2
           have n0 := G.m (blk_drew BK416.out)
           have n1 := G.m (below_drew1 HB.out)
           clear BK416 HB
           revert n0 n1
           intro BK416 HB
           refine G.st 10 (S := fun w' => w'.cell? ⟨gb416, 0, none⟩ = some (.int .i64 a0_0) ∧ w'.cell? ⟨gb416, 1, none⟩ = some (.slice A0_1 l0_1.length c0_1)) [] ⟨G.z BK416 0, G.z BK416 1⟩ impl_Net_ways.tab8 impl_Net_ways.bits8 (fun hHeld HT_ HW_ => ?_)
           generalize wc.drew = w27 at BK416 HB hHeld ⊢
           refine G.pu 1 41 2 ?_
           refine G.pu 3 43 10 ?_
           refine G.pu 6 46 74 ?_
           refine G.pu 7 47 202 ?_
           refine G.ta2 0 40 203 ?_
           refine join_ (σ := Value × Value) 3 (G.fl 10 223) (fun s_ => [(42, s_.1), (44, s_.2)]) (fun s_ w' => (w'.cell? ⟨gb416, 0, none⟩ = some (.int .i64 a0_0) ∧ w'.cell? ⟨gb416, 1, none⟩ = some (.slice A0_1 l0_1.length c0_1)) ∧ (Kd.R (Kd.int .i64) 3 w' wr.heap.size (fun k_ => some k_ ≠ (s_.2 : Value).ownBlock) s_.1 t423) ∧ (Kd.R (Kd.int .i64) 3 w' wr.heap.size (fun k_ => some k_ ≠ (s_.1 : Value).ownBlock) s_.2 y426) ∧ (w'.heap[gb416]? = some (.cells #[.int .i64 a0_0, .slice A0_1 l0_1.length c0_1] 30 (0, 0))) ∧ (Below wr.heap.size wr w')) ?_ ?_
           rotate_left
           ·intro hCont
            refine two_ (i := 2) (j := 4) (Ni := some 42) (Nj := some 44) (G.fl 10 207) (G.fl 10 219) rfl rfl rfl rfl (two_of HT_.out (by kernel_rfl)) (by decide) (by decide) (fun K hK => ?_) (fun K hK => ?_)
            ·skip
             refine G.gs Try.func86 #[.slice (some ad417) l1.length c1] ?_
             with_reducible refine (slices_Clone_int_int.calls _ _ l1 t423 _ ?side1 ?side2 A24.out).mono ?_
             (case side1 => exact G.cC (Kd.C_below HR1.out HB.out))
             (case side2 => exact HC1.out)
             rintro e w28 ⟨v424, rfl, ho0, hb⟩
             refine ⟨_, rfl, ?_⟩
             have n0 := G.m (Kd.R_lower ho0 (below_size (G.cB HB.out)))
             have n1 := G.bb BK416 hb
             have n2 := G.bs HB hb
             clear BK416 HB
             revert n0 n1 n2
             intro HO425 BK416 HB
             (try clear hb ho0)
             refine hK.out _ _ ⟨G.z BK416 0, G.z BK416 1⟩ (fun hHeld => ?_)
             clear hK K
             refine G.no 42 ?_
             refine G.on 4 44 223 (fun K hK => ?_)
             refine Kd.R_lit_step (Kd.int .i64) _ 3 ?hg (N := 44) ?hd (xs := ([x27_1] : List Int)) (inner := [.int .i64 x27_1]) (ok := fun _ => True) (okp := fun _ => True) ?hr ?hp (fun _ hk => hk) trivial (Below.refl _ _) (Nat.le_refl _) (by simp) ?_; (case hd => rfl); (case hg => rfl); (case hr => first | (go_simp; done) | (go_simp; rfl)); (case hp => exact (Reps.one (show Kd.M (Kd.int .i64) _ _ _ x27_1 [.int .i64 x27_1] from rfl) (Reps.none _ _)))
             intro v427 w29 ho30 hb hg_ hnew_
             clear hg_ hnew_
             (first | rw [← Ny426.out] at ho30 | (simp only [Int.reduceToNat] at ho30; rw [← Ny426.out] at ho30))
             have n0 := G.re HO425 ho30 hb
             have n1 := G.m (Kd.R_lower (Kd.R_new' ho30 (Kd.R_lt (G.cR HO425.out))) (below_size (G.cB HB.out)))
             have n2 := G.bb BK416 hb
             have n3 := G.bs HB hb
             clear HO425 BK416 HB
             revert n0 n1 n2 n3
             intro HO425 HO428 BK416 HB
             clear hb ho30
             refine hK.out _ _ ⟨G.z BK416 0, G.z BK416 1⟩ (fun hHeld => ?_)
             clear hK K
             refine G.no 44 ?_
             exact norm_ (by simp only [putAll, Act.put, List.setIfInBounds_toArray, List.set_cons_zero, List.set_cons_succ]) (hCont (v424, v427) _ ⟨hHeld, ((by (with_reducible repeat (first | apply Kd.R_alloc | apply Kd.R_drewN | apply Kd.R_drew)); exact Kd.R_mono HO425.out (fun _ hk => hk.2))), ((by (with_reducible repeat (first | apply Kd.R_alloc | apply Kd.R_drewN | apply Kd.R_drew)); exact Kd.R_mono HO428.out (fun _ hk => hk.2))), (G.cb BK416.out), (G.cB HB.out)⟩)
            ·skip
             refine Kd.R_lit_step (Kd.int .i64) _ 3 ?hg (N := 44) ?hd (xs := ([x27_1] : List Int)) (inner := [.int .i64 x27_1]) (ok := fun _ => True) (okp := fun _ => True) ?hr ?hp (fun _ hk => hk) trivial (Below.refl _ _) (Nat.le_refl _) (by simp) ?_; (case hd => rfl); (case hg => rfl); (case hr => first | (go_simp; done) | (go_simp; rfl)); (case hp => exact (Reps.one (show Kd.M (Kd.int .i64) _ _ _ x27_1 [.int .i64 x27_1] from rfl) (Reps.none _ _)))
             intro v427 w28 ho29 hb hg_ hnew_
             clear hg_ hnew_
             (first | rw [← Ny426.out] at ho29 | (simp only [Int.reduceToNat] at ho29; rw [← Ny426.out] at ho29))
             have n0 := G.m (Kd.R_lower ho29 (below_size (G.cB HB.out)))
             have n1 := G.bb BK416 hb
             have n2 := G.bs HB hb
             clear BK416 HB
             revert n0 n1 n2
             intro HO428 BK416 HB
             clear hb ho29
             refine hK.out _ _ ⟨G.z BK416 0, G.z BK416 1⟩ (fun hHeld => ?_)
             clear hK K
             refine G.no 44 ?_
             refine G.on 2 42 223 (fun K hK => ?_)
             refine G.gs Try.func86 #[.slice (some ad417) l1.length c1] ?_
             with_reducible refine (slices_Clone_int_int.calls _ _ l1 t423 _ ?side1 ?side2 A24.out).mono ?_
             (case side1 => exact G.cC (Kd.C_below HR1.out HB.out))
             (case side2 => exact HC1.out)
             rintro e w30 ⟨v424, rfl, ho0, hb⟩
             refine ⟨_, rfl, ?_⟩
             have n0 := G.re HO428 ho0 hb
             have n1 := G.m (Kd.R_lower (Kd.R_new' ho0 (Kd.R_lt (G.cR HO428.out))) (below_size (G.cB HB.out)))
             have n2 := G.bb BK416 hb
             have n3 := G.bs HB hb
             clear HO428 BK416 HB
             revert n0 n1 n2 n3
             intro HO428 HO425 BK416 HB
             (try clear hb ho0)
             refine hK.out _ _ ⟨G.z BK416 0, G.z BK416 1⟩ (fun hHeld => ?_)
             clear hK K
             refine G.no 42 ?_
             exact norm_ (by simp only [putAll, Act.put, List.setIfInBounds_toArray, List.set_cons_zero, List.set_cons_succ]) (hCont (v424, v427) _ ⟨hHeld, ((by (with_reducible repeat (first | apply Kd.R_alloc | apply Kd.R_drewN | apply Kd.R_drew)); exact Kd.R_mono HO425.out (fun _ hk => hk.2))), ((by (with_reducible repeat (first | apply Kd.R_alloc | apply Kd.R_drewN | apply Kd.R_drew)); exact Kd.R_mono HO428.out (fun _ hk => hk.2))), (G.cb BK416.out), (G.cB HB.out)⟩)
           rintro ⟨v424, v427⟩ w31 ⟨hS_, h0_, h1_, h2_, h3_⟩
           have n0 : Aside0 (Kd.R (Kd.int .i64) 3 w31 wr.heap.size (fun k_ => some k_ ≠ (v427 : Value).ownBlock) v424 t423) := ⟨h0_⟩
           have n1 : Aside0 (Kd.R (Kd.int .i64) 3 w31 wr.heap.size (fun k_ => some k_ ≠ (v424 : Value).ownBlock) v427 y426) := ⟨h1_⟩
           have n2 : Aside0 (w31.heap[gb416]? = some (.cells #[.int .i64 a0_0, .slice A0_1 l0_1.length c0_1] 30 (0, 0))) := ⟨h2_⟩
           have n3 : Aside0 (Below wr.heap.size wr w31) := ⟨h3_⟩
           clear BK416 HB
           clear h0_ h1_ h2_ h3_
           revert n0 n1 n2 n3
           intro HO425 HO428 BK416 HB
           have hHeld : w31.cell? ⟨gb416, 0, none⟩ = some (.int .i64 a0_0) ∧ w31.cell? ⟨gb416, 1, none⟩ = some (.slice A0_1 l0_1.length c0_1) := hS_
           obtain ⟨Ao33, co33, eo33⟩ := Kd.R_slice HO428.out
           (first | subst eo33 | (injection eo33 with f1_ f2_ f3_; have f4_ := f1_.symm; have f5_ := f3_.symm; clear f1_ f2_ f3_; subst f4_; subst f5_))
           refine norm_ (a' := ?_) ?_ ?_
           rotate_left
           ·simp only [putAll, Act.put, List.setIfInBounds_toArray, List.set_cons_zero, List.set_cons_succ]
            rfl
           refine G.on 5 45 255 (fun K hK => ?_)
           refine Kd.R_append_rows_step (Kd.int .i64) (w0 := wr) wr.heap.size (by rfl) (.tmp 42) (.tmp 44) 25 3 (.int .i64 0) 8 rfl Try.underlying25 info3 rfl (by decide) (by omega) v424 t423 y426 _ _ _ (fun k_ => some k_ ≠ (.slice Ao33 y426.length co33 : Value).ownBlock) (fun _ => False) rfl rfl ?aO ?aR (fun _ _ h => h) (fun _ h => h.elim) ?aF ?aB ?aS ?aL ?_
           (case aR => exact G.cC (Kd.R_reads' HO428.out).2.2)
           (case aB => exact (G.cB HB.out))
           (case aF => exact (fun k_ hk => Kd.fresh' (Kd.R_lt (G.cR HO428.out)) k_ hk))
           (case aO => exact (G.cR HO425.out))
           (case aS => exact (below_size (G.cB HB.out)))
           (case aL => have := LMc25.out; omega)
           intro v430 w32 ho hb hg hat
           rw [← Ny429.out] at ho
           have n0 := G.bg BK416 hg (Kd.R_ne HO425.out BK416.out (by decide))
           have n1 := G.m (Kd.R_after (ok := (fun _ => True)) (by (with_reducible repeat (first | apply Kd.R_alloc | apply Kd.R_drewN | apply Kd.R_drew)); exact Kd.R_mono HO428.out (fun _ hk => ⟨trivial, hk⟩)) hg hat)
           have n2 := G.m (hb)
           have n3 := G.m (ho)
           clear BK416 HO428 HB HO425
           revert n0 n1 n2 n3
           intro BK416 HO428 HB HO431
           clear ho hb hg hat
           obtain ⟨Ao34, co34, eo34⟩ := Kd.R_slice HO431.out
           (first | subst eo34 | (injection eo34 with f1_ f2_ f3_; have f4_ := f1_.symm; have f5_ := f3_.symm; clear f1_ f2_ f3_; subst f4_; subst f5_))
           refine hK.out _ _ ⟨G.z BK416 0, G.z BK416 1⟩ (fun hHeld => ?_)
           clear hK K
           refine G.no 45 ?_
           refine G.on 8 48 511 (fun K hK => ?_)
           have HLc := G.m (LX.below HL.out (G.cB HB.out))
           refine G.gs Try.func75 #[.agg #[.int .i64 a0_0, .slice A0_1 l0_1.length c0_1], .slice Ao34 y429.length co34, .int .i64 a2, vq] ?_
           with_reducible refine (ih kj14 (by have := HK1.out; have := HJ14.out; omega) a0_0 _ _ l0_1 _ _ y429 a2 vq x3_1 t432 w0 _ ?side1 ?side2 ?side3 ?side4 A26.out).mono ?_
           (case side1 => exact HRA.out)
           (case side2 => exact HC0_1.out)
           (case side3 => exact HLc.out.b)
           (case side4 => exact ⟨Kd.R_mono (Kd.R_lower (G.cR HO431.out) HL.out.b.size) (fun _ _ => trivial), HLc.out.row⟩)
           rintro e w35 ⟨v1_, rfl, hS_, hb0_, hg_, hat_⟩
           refine ⟨_, rfl, ?_⟩
           have n0 := G.m (blk_grown (g := gb416) (o := .cells #[.int .i64 a0_0, .slice A0_1 l0_1.length c0_1] 30 (0, 0)) (G.cb BK416.out) hg_ (Kd.S_ne HLc.out.row (G.cb BK416.out) (by decide)))
           have n1 := G.m (LX.step HLc.out hS_ hb0_ hg_ hat_)
           have n2 := G.m (Below.refl w35.heap.size w35)
           clear HO428 HO431 BK416 HB HL HLc hS_ hb0_ hg_ hat_ HR0_1 HR1
           revert n0 n1 n2
           intro BK416 HL HB
           refine hK.out _ _ ⟨G.z BK416 0, G.z BK416 1⟩ (fun hHeld => ?_)
           clear hK K
           refine G.no 48 ?_
           refine G.pu 9 3 1023 ?_
           refine done_ (done_of HT_.out (by kernel_rfl)) ?_
           try go_wp2
           go_roundg kj14
           case measure => have := HK1.out; have := HJ14.out; omega
           case rel => exact ⟨_, t432, (wrap64 (x27_1 + 1)), rfl, (by first | rfl | (simp; done) | (simp [*]; done)), H', ⟨by have := HK1.out; have := HJ14.out; omega⟩, ⟨G.cb BK416.out⟩, ⟨LX.below HL.out (G.cB HB.out)⟩⟩
          ·rw [if_neg c25] at H
           exact absurd H (by simp)
         ·replace c23 := Bool.eq_false_iff.mpr c23
          subst c23
          have H1 : (impl_Net_ways.l0 kj14 l1 a2 x3_1 (rd l1 (ji5)) a0_0 (wrap64 (x27_1 + 1)) a0_0 l0_1) = some r := by rw [if_neg (show ¬ (false = true) by decide)] at H; exact H
          clear H
          have H := H1
          clear H1
          have H' := G.m H
          clear H
          go_wp2
          go_roundg kj14
          case measure => have := HK1.out; have := HJ14.out; omega
          case rel => exact ⟨_, x3_1, (wrap64 (x27_1 + 1)), rfl, (by first | rfl | (simp; done) | (simp [*]; done)), H', ⟨by have := HK1.out; have := HJ14.out; omega⟩, ⟨G.cb BK416.out⟩, ⟨LX.below HL.out (G.cB HB.out)⟩⟩
      ·rw [if_neg c14] at H
       have c14b0 : decide (x27_1 < a0_0) = false := decide_eq_false c14
       clear c14
       obtain rfl := Option.some.inj H
       go_wp2
       go_ret
       exact ⟨_, by first | rfl | (simp [errW_none, errW_some] <;> rfl), (LX.below HL.out (G.cB HB.out)).fin⟩
  ·rw [if_neg c7] at H
   exact absurd H (by simp)
 ·rw [if_neg c6] at H
  exact absurd H (by simp)
end Go.Proofs.Ytddadihobjinhaa.P
