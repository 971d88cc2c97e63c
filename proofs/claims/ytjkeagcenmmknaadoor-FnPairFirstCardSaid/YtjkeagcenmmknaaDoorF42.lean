-- Printed by a program of this session (mp.py, over the kit's print). Not trusted: Lean checks it.
import Derived.Test.YtjkeagcenmmknaaDoorF0
import Derived.Test.YtjkeagcenmmknaaDoorF1
import Derived.Test.YtjkeagcenmmknaaDoorF17
import Derived.Test.YtjkeagcenmmknaaDoorF19
import Derived.Test.YtjkeagcenmmknaaDoorF21
import Derived.Test.YtjkeagcenmmknaaDoorF25
import Derived.Test.YtjkeagcenmmknaaDoorF26
import Derived.Test.YtjkeagcenmmknaaDoorF31
namespace Go.Proofs.YtjkeagcenmmknaaDoor.P
open Go.RowKit Go.Proofs.YtjkeagcenmmknaaDoorW.PrintWords Go.Proofs.YtjkeagcenmmknaaDoorW.PrintLast Go.Proofs.YtjkeagcenmmknaaDoorW.PrintMore
attribute [local go_sem] max2_int min2_int max_two min_two max_three min_three max_four min_four   -- for this text's walks alone
set_option linter.unusedVariables false
set_option linter.unusedSimpArgs false

theorem caff {p : Prop} (h : p := by (with_reducible repeat (first | apply Kd.R_alloc | apply Kd.R_drewN | apply Kd.R_drew)); exact (Kd.R_mono (Kd.R_far (p := ⟨aQ, 1, none⟩) (Kd.R_far (p := ⟨aQ, 0, none⟩) (Kd.R_types aj.out ab.out (by decide)) (fun _ hk => hk.2) (.int .i64 ai)) (fun _ hk => hk.2) (.slice aw ae.length av)) (fun _ h_ => h_.1))) : p := h
theorem cafg {p : Prop} (h : p := by (with_reducible repeat (first | apply Kd.R_alloc | apply Kd.R_drewN | apply Kd.R_drew)); exact (Kd.R_mono (Kd.R_far (p := ⟨aQ, 1, none⟩) (Kd.R_far (p := ⟨aQ, 0, none⟩) (Kd.R_types al.out ab.out (by decide)) (fun _ hk => hk.2) (.int .i64 ai)) (fun _ hk => hk.2) (.slice aw ae.length av)) (fun _ h_ => h_.1))) : p := h
theorem cafc {p : Prop} (h : p := by (with_reducible repeat (first | apply Kd.R_alloc | apply Kd.R_drewN | apply Kd.R_drew)); exact Kd.R_mono am.out (fun _ hk => ⟨hk.1.2, hk.1.1.2⟩)) : p := h
theorem cafd {p : Prop} (h : p := by (with_reducible repeat (first | apply Kd.R_alloc | apply Kd.R_drewN | apply Kd.R_drew)); exact Kd.R_mono al.out (fun _ hk => ⟨hk.1.2, hk.1.1⟩)) : p := h
theorem cafe {p : Prop} (h : p := by (with_reducible repeat (first | apply Kd.R_alloc | apply Kd.R_drewN | apply Kd.R_drew)); exact Kd.R_mono aj.out (fun _ hk => ⟨hk.1.1, hk.1.2⟩)) : p := h
theorem cafb {p : Prop} (h : p := by first | rfl | (simp [errW_none, errW_some] <;> rfl) | (simp [*, errW_none, errW_some] <;> rfl)) : p := h
theorem cafa {p : Prop} (h : p := by first | rfl | (simp; done) | (simp [*]; done)) : p := h
attribute [local go_sem high] eqA51
/-! ### laws_loLess: function 39 -/
mutual
def laws_loLess.l0 : Nat → List (S51) → List (S51) → Int → Option (Bool)
 | 0, _, _, _ => none
 | k + 1, x0, x1, x5 => if x5 < (x0.length : Int) then (laws_loLess.j1 k x0 x1 x5 (decide (x5 < (x1.length : Int)))) else (laws_loLess.j1 k x0 x1 x5 false)
def laws_loLess.j1 : Nat → List (S51) → List (S51) → Int → Bool → Option (Bool)
 | 0, _, _, _, _ => none
 | k + 1, x0, x1, x5, d9 => if d9 = true then (if 0 ≤ x5 then (if x5 < (x0.length : Int) then (if x5 < (x1.length : Int) then (if (!(((rd_T51 x0 x5).f0) == ((rd_T51 x1 x5).f0)) || (!(((rd_T51 x0 x5).f1) == ((rd_T51 x1 x5).f1)))) = true then (if ((rd_T51 x0 x5).f0) < ((rd_T51 x1 x5).f0) then (some true) else (if ((rd_T51 x0 x5).f0) = ((rd_T51 x1 x5).f0) then (some (decide (((rd_T51 x0 x5).f1) < ((rd_T51 x1 x5).f1)))) else (some false))) else (laws_loLess.l0 k x0 x1 (wrap64 (x5 + 1)))) else (none)) else (none)) else (none)) else (some false)
end
def laws_loLess.f (k : Nat) (l0 : List (S51)) (l1 : List (S51)) : Option (Bool) := laws_loLess.l0 k l0 l1 0
theorem laws_loLess.mono_l : ∀ k, (∀ y0 y1 y2, LeO (laws_loLess.l0 k y0 y1 y2) (laws_loLess.l0 (k + 1) y0 y1 y2)) ∧ (∀ y0 y1 y2 y3, LeO (laws_loLess.j1 k y0 y1 y2 y3) (laws_loLess.j1 (k + 1) y0 y1 y2 y3))
 | 0 => ⟨fun _ _ _ r h => by simp [laws_loLess.l0] at h, fun _ _ _ _ r h => by simp [laws_loLess.j1] at h⟩
 | k + 1 => by
  obtain ⟨aT, bw⟩ := laws_loLess.mono_l k; refine ⟨?_, ?_⟩ <;> intros
  all_goals first | unfold laws_loLess.l0 | unfold laws_loLess.j1
  repeat' first | (with_reducible first | exact aT _ _ _ | exact bw _ _ _ _ | exact LeO.refl _ | exact LeO.none _ | refine LeO.ite ?_ ?_ | refine LeO.bind ?_ (fun _ => ?_)) | exact aT _ _ _ | exact bw _ _ _ _ | exact LeO.none _ | refine LeO.ite ?_ ?_ | refine LeO.bind ?_ (fun _ => ?_)
theorem laws_loLess.mono : ∀ a0 a1 k, LeO (laws_loLess.f k a0 a1) (laws_loLess.f (k + 1) a0 a1) := by
 intro a0 a1 k; obtain ⟨aT, bw⟩ := laws_loLess.mono_l k; unfold laws_loLess.f
 repeat' first | (with_reducible first | exact aT _ _ _ | exact bw _ _ _ _ | exact LeO.refl _ | exact LeO.none _ | refine LeO.ite ?_ ?_ | refine LeO.bind ?_ (fun _ => ?_)) | exact aT _ _ _ | exact bw _ _ _ _ | exact LeO.none _ | refine LeO.ite ?_ ?_ | refine LeO.bind ?_ (fun _ => ?_)
set_option maxHeartbeats 8000000 in
set_option maxRecDepth 100000 in
theorem laws_loLess.calls (k : Nat) (A0 : Option Addr) (c0 : Nat) (l0 : List (S51)) (A1 : Option Addr) (c1 : Nat) (l1 : List (S51)) (r : Bool) (w : World) (bx : Kd.C k51 w A0 l0.length l0) (bz : l0.length ≤ c0) (hr1 : Kd.C k51 w A1 l1.length l1) (cp : l1.length ≤ c1) (h : laws_loLess.f k l0 l1 = some r) :
  Calls Tryd.prog 39 #[.slice A0 l0.length c0, .slice A1 l1.length c1] w fun e w' => e = .returned (.bool r) ∧ Drawn0 w w' := by
 have ep := Tryd.underlying51; have aS := G.m bx; have cq := G.m bz; clear bx bz; have aW := G.m hr1; have eU := G.m cp; clear hr1 cp; have H : (laws_loLess.l0 k l0 l1 0) = some r := h; clear h; have H' := G.m H; clear H
 go_enter Tryd.func39, Tryd.ntmps39
 go_wp2
 repeat (go_quiet (fail); try go_wp2)
 go_loopg [5] k (fun kq v5 w' => ∃ (aa : Int), v5 = .int .i64 aa ∧ Aside0 (laws_loLess.l0 kq l0 l1 aa = some r) ∧ Aside0 (kq ≤ k) ∧ Drawn0 w w')
 case atStart => exact ⟨(0), (cafa), H', ⟨Nat.le_refl _⟩, by repeat (first | exact Drawn0.refl _ | apply Drawn0.step)⟩
 case round =>
  clear H'; obtain ⟨aa, rfl, HA, bH, ⟨m1, rfl⟩⟩ := hrel; cases gk with
  | zero => exact absurd HA.out (by simp [laws_loLess.l0])
  | succ k1 =>
   have H := HA.out; clear HA; simp only [laws_loLess.l0] at H; have bZ := G.m H; clear H
   go_upto_region 2 with (fail)
   repeat (go_quiet (fail); go_upto_region 2 with (fail))
   go_cut [15] (fun d_ wc => ∃ (kq : Nat) (bd : Bool), d_ = .bool bd ∧ Aside0 (laws_loLess.j1 kq l0 l1 aa bd = some r) ∧ Aside0 (kq ≤ k1) ∧ Drawn0 w wc)
   case first =>
    have H := bZ.out; clear bZ
    by_cases c4 : aa < (l0.length : Int)
    ·rw [if_pos c4] at H; have bh : decide (aa < (l0.length : Int)) = true := decide_eq_true c4; clear c4; (first | rw [bh] | (simp only [i64_w, i32_w]; rw [bh]) | skip); have H' := G.m H; clear H
     go_wp2
     repeat (go_quiet (fail); try go_wp2)
     go_meet
     case rel => exact ⟨_, (decide (aa < (l1.length : Int))), (cafa), H', ⟨by have := bH.out; first | omega | exact Nat.le_refl _⟩, by repeat (first | exact Drawn0.refl _ | apply Drawn0.step)⟩
    ·rw [if_neg c4] at H; have bh : decide (aa < (l0.length : Int)) = false := decide_eq_false c4; clear c4; (first | rw [bh] | (simp only [i64_w, i32_w]; rw [bh]) | skip); have H' := G.m H; clear H
     go_wp2
     repeat (go_quiet (fail); try go_wp2)
     go_meet
     case rel => exact ⟨_, (false), (cafa), H', ⟨by have := bH.out; first | omega | exact Nat.le_refl _⟩, by repeat (first | exact Drawn0.refl _ | apply Drawn0.step)⟩
   case rest =>
    clear bZ; obtain ⟨kq, bd, rfl, HA, cr, ⟨eV, rfl⟩⟩ := hcut; cases kq with
    | zero => exact absurd HA.out (by simp [laws_loLess.j1])
    | succ ct =>
     have H := HA.out; clear HA; simp only [laws_loLess.j1] at H
     by_cases c5 : bd = true
     ·subst c5; have H1 : (if 0 ≤ aa then (if aa < (l0.length : Int) then (if aa < (l1.length : Int) then (if (!(((rd_T51 l0 aa).f0) == ((rd_T51 l1 aa).f0)) || (!(((rd_T51 l0 aa).f1) == ((rd_T51 l1 aa).f1)))) = true then (if ((rd_T51 l0 aa).f0) < ((rd_T51 l1 aa).f0) then (some true) else (if ((rd_T51 l0 aa).f0) = ((rd_T51 l1 aa).f0) then (some (decide (((rd_T51 l0 aa).f1) < ((rd_T51 l1 aa).f1)))) else (some false))) else (laws_loLess.l0 ct l0 l1 (wrap64 (aa + 1)))) else (none)) else (none)) else (none)) = some r := by rw [if_pos rfl] at H; exact H
      clear H; have H := H1; clear H1
      by_cases c6 : 0 ≤ aa
      ·rw [if_pos c6] at H; have eq : decide (0 ≤ aa) = true := decide_eq_true c6; clear c6
       by_cases c7 : aa < (l0.length : Int)
       ·rw [if_pos c7] at H; have er : decide (aa < (l0.length : Int)) = true := decide_eq_true c7; clear c7
        by_cases c8 : aa < (l1.length : Int)
        ·rw [if_pos c8] at H; have es : decide (aa < (l1.length : Int)) = true := decide_eq_true c8; clear c8
         by_cases c9 : (!(((rd_T51 l0 aa).f0) == ((rd_T51 l1 aa).f0)) || (!(((rd_T51 l0 aa).f1) == ((rd_T51 l1 aa).f1)))) = true
         ·rw [if_pos c9] at H; have b1 : (!(((rd_T51 l0 aa).f0) == ((rd_T51 l1 aa).f0)) || (!(((rd_T51 l0 aa).f1) == ((rd_T51 l1 aa).f1)))) = true := c9; clear c9
          by_cases c10 : ((rd_T51 l0 aa).f0) < ((rd_T51 l1 aa).f0)
          ·rw [if_pos c10] at H; have cg : decide (((rd_T51 l0 aa).f0) < ((rd_T51 l1 aa).f0)) = true := decide_eq_true c10; clear c10; obtain rfl := Option.some.inj H; have aA : 0 ≤ (aa : Int) := of_decide_eq_true (G.asm); have aB : aa < (l0.length : Int) := of_decide_eq_true (G.asm); obtain ⟨aK, aX, a8, a9⟩ := at_T51 aS.out aa aA aB; cases aX; replace aA := eq_true aA; replace aB := eq_true aB; have aC : 0 ≤ (aa : Int) := of_decide_eq_true (G.asm); have aD : aa < (l1.length : Int) := of_decide_eq_true (G.asm); obtain ⟨aL, aY, a_, ba⟩ := at_T51 aW.out aa aC aD; cases aY; replace aC := eq_true aC; replace aD := eq_true aD; have aM : 0 ≤ (aa : Int) := of_decide_eq_true (G.asm); have aN : aa < (l0.length : Int) := of_decide_eq_true (G.asm); obtain ⟨a5, bj, bm, bn⟩ := at_T51 aS.out aa aM aN; obtain rfl : aK = a5 := (by injection bj); replace aM := eq_true aM; replace aN := eq_true aN; have aO : 0 ≤ (aa : Int) := of_decide_eq_true (G.asm); have aP : aa < (l1.length : Int) := of_decide_eq_true (G.asm); obtain ⟨a6, bk, bo, bp⟩ := at_T51 aW.out aa aO aP; obtain rfl : aL = a6 := (by injection bk); replace aO := eq_true aO; replace aP := eq_true aP
           go_wp2
           repeat (go_quiet (fail); try go_wp2)
           go_ret
           exact ⟨cafa, by repeat (first | exact Drawn0.refl _ | apply Drawn0.step)⟩
          ·rw [if_neg c10] at H; have cg : decide (((rd_T51 l0 aa).f0) < ((rd_T51 l1 aa).f0)) = false := decide_eq_false c10; clear c10
           by_cases bl : ((rd_T51 l0 aa).f0) = ((rd_T51 l1 aa).f0)
           ·rw [if_pos bl] at H; have bI : (((rd_T51 l0 aa).f0) == ((rd_T51 l1 aa).f0)) = true := beq_iff_eq.mpr bl; have ch : (((rd_T51 l0 aa).f0) != ((rd_T51 l1 aa).f0)) = false := bne_eq_false_iff_eq.mpr bl; have ek : (((rd_T51 l0 aa).f1) == ((rd_T51 l1 aa).f1)) = false := by rcases Bool.eq_false_or_eq_true (((rd_T51 l0 aa).f1) == ((rd_T51 l1 aa).f1)) with h_ | h_; exact absurd b1 (by rw [bI, h_]; decide); exact h_
            clear bl; obtain rfl := Option.some.inj H; have aA : 0 ≤ (aa : Int) := of_decide_eq_true (G.asm); have aB : aa < (l0.length : Int) := of_decide_eq_true (G.asm); obtain ⟨aK, aX, a8, a9⟩ := at_T51 aS.out aa aA aB; cases aX; replace aA := eq_true aA; replace aB := eq_true aB; have aC : 0 ≤ (aa : Int) := of_decide_eq_true (G.asm); have aD : aa < (l1.length : Int) := of_decide_eq_true (G.asm); obtain ⟨aL, aY, a_, ba⟩ := at_T51 aW.out aa aC aD; cases aY; replace aC := eq_true aC; replace aD := eq_true aD; have aM : 0 ≤ (aa : Int) := of_decide_eq_true (G.asm); have aN : aa < (l0.length : Int) := of_decide_eq_true (G.asm); obtain ⟨a5, bj, bm, bn⟩ := at_T51 aS.out aa aM aN; obtain rfl : aK = a5 := (by injection bj); replace aM := eq_true aM; replace aN := eq_true aN; have aO : 0 ≤ (aa : Int) := of_decide_eq_true (G.asm); have aP : aa < (l1.length : Int) := of_decide_eq_true (G.asm); obtain ⟨a6, bk, bo, bp⟩ := at_T51 aW.out aa aO aP; obtain rfl : aL = a6 := (by injection bk); replace aO := eq_true aO; replace aP := eq_true aP; have aZ : 0 ≤ (aa : Int) := of_decide_eq_true (G.asm); have a2 : aa < (l0.length : Int) := of_decide_eq_true (G.asm); obtain ⟨bu, bA, bR, bS⟩ := at_T51 aS.out aa aZ a2; obtain rfl : aK = bu := (by injection bA); replace aZ := eq_true aZ; replace a2 := eq_true a2; have a3 : 0 ≤ (aa : Int) := of_decide_eq_true (G.asm); have a4 : aa < (l1.length : Int) := of_decide_eq_true (G.asm); obtain ⟨bv, bB, bT, bU⟩ := at_T51 aW.out aa a3 a4; obtain rfl : aL = bv := (by injection bB); replace a3 := eq_true a3; replace a4 := eq_true a4; have bC : 0 ≤ (aa : Int) := of_decide_eq_true (G.asm); have bD : aa < (l0.length : Int) := of_decide_eq_true (G.asm); obtain ⟨ci, cu, cQ, cS⟩ := at_T51 aS.out aa bC bD; obtain rfl : aK = ci := (by injection cu); replace bC := eq_true bC; replace bD := eq_true bD; have bE : 0 ≤ (aa : Int) := of_decide_eq_true (G.asm); have bF : aa < (l1.length : Int) := of_decide_eq_true (G.asm); obtain ⟨cj, cv, cT, cU⟩ := at_T51 aW.out aa bE bF; obtain rfl : aL = cj := (by injection cv); replace bE := eq_true bE; replace bF := eq_true bF
            go_wp2
            repeat (go_quiet (fail); try go_wp2)
            go_ret
            exact ⟨cafa, by repeat (first | exact Drawn0.refl _ | apply Drawn0.step)⟩
           ·rw [if_neg bl] at H; have bI : (((rd_T51 l0 aa).f0) == ((rd_T51 l1 aa).f0)) = false := beq_eq_false_iff_ne.mpr bl; have ch : (((rd_T51 l0 aa).f0) != ((rd_T51 l1 aa).f0)) = true := bne_iff_ne.mpr bl; obtain rfl := Option.some.inj H; have aA : 0 ≤ (aa : Int) := of_decide_eq_true (G.asm); have aB : aa < (l0.length : Int) := of_decide_eq_true (G.asm); obtain ⟨aK, aX, a8, a9⟩ := at_T51 aS.out aa aA aB; cases aX; replace aA := eq_true aA; replace aB := eq_true aB; have aC : 0 ≤ (aa : Int) := of_decide_eq_true (G.asm); have aD : aa < (l1.length : Int) := of_decide_eq_true (G.asm); obtain ⟨aL, aY, a_, ba⟩ := at_T51 aW.out aa aC aD; cases aY; replace aC := eq_true aC; replace aD := eq_true aD; have aM : 0 ≤ (aa : Int) := of_decide_eq_true (G.asm); have aN : aa < (l0.length : Int) := of_decide_eq_true (G.asm); obtain ⟨a5, bj, bm, bn⟩ := at_T51 aS.out aa aM aN; obtain rfl : aK = a5 := (by injection bj); replace aM := eq_true aM; replace aN := eq_true aN; have aO : 0 ≤ (aa : Int) := of_decide_eq_true (G.asm); have aP : aa < (l1.length : Int) := of_decide_eq_true (G.asm); obtain ⟨a6, bk, bo, bp⟩ := at_T51 aW.out aa aO aP; obtain rfl : aL = a6 := (by injection bk); replace aO := eq_true aO; replace aP := eq_true aP; have aZ : 0 ≤ (aa : Int) := of_decide_eq_true (G.asm); have a2 : aa < (l0.length : Int) := of_decide_eq_true (G.asm); obtain ⟨bu, bA, bR, bS⟩ := at_T51 aS.out aa aZ a2; obtain rfl : aK = bu := (by injection bA); replace aZ := eq_true aZ; replace a2 := eq_true a2; have a3 : 0 ≤ (aa : Int) := of_decide_eq_true (G.asm); have a4 : aa < (l1.length : Int) := of_decide_eq_true (G.asm); obtain ⟨bv, bB, bT, bU⟩ := at_T51 aW.out aa a3 a4; obtain rfl : aL = bv := (by injection bB); replace a3 := eq_true a3; replace a4 := eq_true a4
            go_wp2
            repeat (go_quiet (fail); try go_wp2)
            go_ret
            exact ⟨cafa, by repeat (first | exact Drawn0.refl _ | apply Drawn0.step)⟩
         ·rw [if_neg c9] at H; have b1 : (!(((rd_T51 l0 aa).f0) == ((rd_T51 l1 aa).f0)) || (!(((rd_T51 l0 aa).f1) == ((rd_T51 l1 aa).f1)))) = false := by simpa using c9
          clear c9; have H' := G.m H; clear H; have aA : 0 ≤ (aa : Int) := of_decide_eq_true (G.asm); have aB : aa < (l0.length : Int) := of_decide_eq_true (G.asm); obtain ⟨aK, aX, a8, a9⟩ := at_T51 aS.out aa aA aB; cases aX; replace aA := eq_true aA; replace aB := eq_true aB; have aC : 0 ≤ (aa : Int) := of_decide_eq_true (G.asm); have aD : aa < (l1.length : Int) := of_decide_eq_true (G.asm); obtain ⟨aL, aY, a_, ba⟩ := at_T51 aW.out aa aC aD; cases aY; replace aC := eq_true aC; replace aD := eq_true aD
          go_wp2
          repeat (go_quiet (fail); try go_wp2)
          go_roundg ct
          case measure => have := bH.out; have := cr.out; omega
          case rel => exact ⟨(wrap64 (aa + 1)), (cafa), H', ⟨by have := bH.out; have := cr.out; omega⟩, by repeat (first | exact Drawn0.refl _ | apply Drawn0.step)⟩
        ·rw [if_neg c8] at H; exact absurd H (by simp)
       ·rw [if_neg c7] at H; exact absurd H (by simp)
      ·rw [if_neg c6] at H; exact absurd H (by simp)
     ·replace c5 := Bool.eq_false_iff.mpr c5; subst c5; have H1 : (some false) = some r := by rw [if_neg (show ¬ (false = true) by decide)] at H; exact H
      clear H; have H := H1; clear H1; obtain rfl := Option.some.inj H
      go_wp2
      repeat (go_quiet (fail); try go_wp2)
      go_ret
      exact ⟨cafa, by repeat (first | exact Drawn0.refl _ | apply Drawn0.step)⟩

/-! ### laws_FnPairFirst: function 10 -/
def laws_FnPairFirst.j0 : Nat → List (S51) → Bool → List (S51) → Bool → Int → List (S51) → Option (Bool)
 | 0, _, _, _, _, _, _ => none
 | k + 1, x4, x5, x6, ea, bq, br => if ea = true then ((spec_PairOk.f k bq br x4).bind fun ay => (if (x5 == ay) = true then ((spec_PairOf.f k bq br).bind fun aJ => ((laws_loTies.f k x6 aJ).bind fun aR => (if aR = true then (if x5 = true then (some (decide ((x4.length : Int) ≤ (x6.length : Int)))) else (some true)) else (some false)))) else (some false))) else ((laws_loLess.f k x4 x6).bind fun bc => (some (!bc)))
def laws_FnPairFirst.f (k : Nat) (l0 : List Int) : Option (Bool) := if (l0.length : Int) > 1048576 then (some true) else ((spec_DrawPairOk.f k l0).bind fun ak => ((impl_PairOk.f k ak.1 ak.2.1 ak.2.2).bind fun af => ((impl_PairOf.f k ak.1 ak.2.1).bind fun ag => ((spec_PairOk.f k ak.1 ak.2.1 ak.2.2).bind fun au => (if (af != au) = true then (laws_FnPairFirst.j0 k ak.2.2 af ag true ak.1 ak.2.1) else ((spec_PairOf.f k ak.1 ak.2.1).bind fun ax => ((laws_loTies.f k ag ax).bind fun az => (if az = true then (if af = true then (laws_FnPairFirst.j0 k ak.2.2 af ag ((ak.2.2.length : Int) != (ag.length : Int)) ak.1 ak.2.1) else (laws_FnPairFirst.j0 k ak.2.2 af ag true ak.1 ak.2.1)) else (laws_FnPairFirst.j0 k ak.2.2 af ag true ak.1 ak.2.1)))))))))
theorem laws_FnPairFirst.mono_l : ∀ k, (∀ y0 y1 y2 y3 y4 y5, LeO (laws_FnPairFirst.j0 k y0 y1 y2 y3 y4 y5) (laws_FnPairFirst.j0 (k + 1) y0 y1 y2 y3 y4 y5))
 | 0 => fun _ _ _ _ _ _ r h => by simp [laws_FnPairFirst.j0] at h
 | k + 1 => by
  have aT := laws_FnPairFirst.mono_l k
  ·intro y0 y1 y2 y3 y4 y5; unfold laws_FnPairFirst.j0
   repeat' first
   | (with_reducible exact aT _ _ _ _ _ _)
   | (with_reducible exact impl_PairOf.mono _ _ _)
   | (with_reducible exact impl_PairOk.mono _ _ _ _)
   | (with_reducible exact laws_loLess.mono _ _ _)
   | (with_reducible exact laws_loTies.mono _ _ _)
   | (with_reducible exact spec_DrawPairOk.mono _ _)
   | (with_reducible exact spec_PairOf.mono _ _ _)
   | (with_reducible exact spec_PairOk.mono _ _ _ _)
   | (with_reducible exact LeO.refl _)
   | (with_reducible exact LeO.none _)
   | (with_reducible refine LeO.ite ?_ ?_)
   | (with_reducible refine LeO.bind ?_ (fun _ => ?_))
   | exact aT _ _ _ _ _ _
   | exact impl_PairOf.mono _ _ _
   | exact impl_PairOk.mono _ _ _ _
   | exact laws_loLess.mono _ _ _
   | exact laws_loTies.mono _ _ _
   | exact spec_DrawPairOk.mono _ _
   | exact spec_PairOf.mono _ _ _
   | exact spec_PairOk.mono _ _ _ _
   | exact LeO.none _
   | refine LeO.ite ?_ ?_
   | refine LeO.bind ?_ (fun _ => ?_)
theorem laws_FnPairFirst.mono : ∀ a0 k, LeO (laws_FnPairFirst.f k a0) (laws_FnPairFirst.f (k + 1) a0) := by
 intro a0 k; have aT := laws_FnPairFirst.mono_l k; unfold laws_FnPairFirst.f
 repeat' first | (with_reducible first | exact aT _ _ _ _ _ _ | exact impl_PairOf.mono _ _ _ | exact impl_PairOk.mono _ _ _ _ | exact laws_loLess.mono _ _ _ | exact laws_loTies.mono _ _ _ | exact spec_DrawPairOk.mono _ _ | exact spec_PairOf.mono _ _ _ | exact spec_PairOk.mono _ _ _ _ | exact LeO.refl _ | exact LeO.none _ | refine LeO.ite ?_ ?_ | refine LeO.bind ?_ (fun _ => ?_)) | exact aT _ _ _ _ _ _ | exact impl_PairOf.mono _ _ _ | exact impl_PairOk.mono _ _ _ _ | exact laws_loLess.mono _ _ _ | exact laws_loTies.mono _ _ _ | exact spec_DrawPairOk.mono _ _ | exact spec_PairOf.mono _ _ _ | exact spec_PairOk.mono _ _ _ _ | exact LeO.none _ | refine LeO.ite ?_ ?_ | refine LeO.bind ?_ (fun _ => ?_)
set_option maxHeartbeats 8000000 in
set_option maxRecDepth 100000 in
theorem laws_FnPairFirst.calls (k : Nat) (A0 : Option Addr) (c0 : Nat) (l0 : List Int) (r : Bool) (w : World) (bx : Kd.C (Kd.int .u8) w A0 l0.length l0) (bz : l0.length ≤ c0) (h : laws_FnPairFirst.f k l0 = some r) (hT : TabAt 1 Lib.deBruijn64tab w) :
  Calls Tryd.prog 10 #[.slice A0 l0.length c0] w fun e w' => e = .returned (.bool r) ∧ Below w.heap.size w w' := by
 have HTb := G.m hT; clear hT; have et := Tryd.underlying29; have aS := G.m bx; have cq := G.m bz; clear bx bz; have HB := G.m (Below.refl w.heap.size w); have H : (if (l0.length : Int) > 1048576 then (some true) else ((spec_DrawPairOk.f k l0).bind fun ak => ((impl_PairOk.f k ak.1 ak.2.1 ak.2.2).bind fun af => ((impl_PairOf.f k ak.1 ak.2.1).bind fun ag => ((spec_PairOk.f k ak.1 ak.2.1 ak.2.2).bind fun au => (if (af != au) = true then (laws_FnPairFirst.j0 k ak.2.2 af ag true ak.1 ak.2.1) else ((spec_PairOf.f k ak.1 ak.2.1).bind fun ax => ((laws_loTies.f k ag ax).bind fun az => (if az = true then (if af = true then (laws_FnPairFirst.j0 k ak.2.2 af ag ((ak.2.2.length : Int) != (ag.length : Int)) ak.1 ak.2.1) else (laws_FnPairFirst.j0 k ak.2.2 af ag true ak.1 ak.2.1)) else (laws_FnPairFirst.j0 k ak.2.2 af ag true ak.1 ak.2.1)))))))))) = some r := h; clear h
 by_cases c2 : (l0.length : Int) > 1048576
 ·rw [if_pos c2] at H; have b2 : decide (1048576 < (l0.length : Int)) = true := decide_eq_true c2; have b3 : decide (1048576 < l0.length) = true := decide_eq_true (by omega); clear c2; obtain rfl := Option.some.inj H
  go_enter Tryd.func10, Tryd.ntmps10
  go_wp2
  go_ret
  exact ⟨cafb, G.cB HB.out⟩
 ·rw [if_neg c2] at H; have b2 : decide (1048576 < (l0.length : Int)) = false := decide_eq_false c2; have b3 : decide (1048576 < l0.length) = false := decide_eq_false (by omega); clear c2; obtain ⟨⟨ai, ae, ah⟩, A3, H⟩ := G.bi H; replace H : ((impl_PairOk.f k ai ae ah).bind fun af => ((impl_PairOf.f k ai ae).bind fun ag => ((spec_PairOk.f k ai ae ah).bind fun au => (if (af != au) = true then (laws_FnPairFirst.j0 k ah af ag true ai ae) else ((spec_PairOf.f k ai ae).bind fun ax => ((laws_loTies.f k ag ax).bind fun az => (if az = true then (if af = true then (laws_FnPairFirst.j0 k ah af ag ((ah.length : Int) != (ag.length : Int)) ai ae) else (laws_FnPairFirst.j0 k ah af ag true ai ae)) else (laws_FnPairFirst.j0 k ah af ag true ai ae)))))))) = some r := H; obtain ⟨af, A4, H⟩ := G.bi H; replace H : ((impl_PairOf.f k ai ae).bind fun ag => ((spec_PairOk.f k ai ae ah).bind fun au => (if (af != au) = true then (laws_FnPairFirst.j0 k ah af ag true ai ae) else ((spec_PairOf.f k ai ae).bind fun ax => ((laws_loTies.f k ag ax).bind fun az => (if az = true then (if af = true then (laws_FnPairFirst.j0 k ah af ag ((ah.length : Int) != (ag.length : Int)) ai ae) else (laws_FnPairFirst.j0 k ah af ag true ai ae)) else (laws_FnPairFirst.j0 k ah af ag true ai ae))))))) = some r := H; obtain ⟨ag, A5, H⟩ := G.bi H; replace H : ((spec_PairOk.f k ai ae ah).bind fun au => (if (af != au) = true then (laws_FnPairFirst.j0 k ah af ag true ai ae) else ((spec_PairOf.f k ai ae).bind fun ax => ((laws_loTies.f k ag ax).bind fun az => (if az = true then (if af = true then (laws_FnPairFirst.j0 k ah af ag ((ah.length : Int) != (ag.length : Int)) ai ae) else (laws_FnPairFirst.j0 k ah af ag true ai ae)) else (laws_FnPairFirst.j0 k ah af ag true ai ae)))))) = some r := H; have b4 := G.m H; clear H
  go_enter Tryd.func10, Tryd.ntmps10
  go_upto_region 6 with (first | ((with_reducible refine G.f 33 rfl ?_); refine G.gL 12 Tryd.func33 #[.slice A0 l0.length c0] ?_; (with_reducible refine (spec_DrawPairOk.calls k _ _ l0 ai ae ah _ ?side1 ?side2 A3.out).mono ?_); (case side1 => exact G.cC aS.out); (case side2 => exact cq.out); rintro e w7 ⟨eu, ev, rfl, aq, ho1, hb⟩; refine ⟨_, rfl, ?_⟩; have n0 := G.m (Kd.R_lower aq (below_size (G.cB HB.out))); have n1 := G.m (Kd.R_lower ho1 (below_size (G.cB HB.out))); have n2 := G.bs HB hb; clear HB; revert n0 n1 n2; intro aj al HB; (try clear hb aq ho1)) | ((with_reducible refine G.h 3 rfl ?_); (try (refine gate_guard (by rfl) ?_; dsimp only)); refine G.be 3 #[.int .i64 0, .slice none 0 0] 29 ?_; intro aQ hg w8 hbox hb; have n0 := G.rb aj hb; have n1 := G.rb al hb; have n2 := G.bs HB hb; have n3 := G.m (hbox); have n4 := G.m ((by rw [hg]; exact (below_size (G.cB HB.out)) : w.heap.size ≤ aQ)); have n5 := G.m ((by rw [hg]; exact (below_size (G.cB HB.out)) : w.heap.size ≤ aQ)); clear aj al HB; revert n0 n1 n2 n3 n4 n5; intro aj al HB ab el em; clear hb hbox hg; have ⟨b5, b6, b7, b8⟩ := G.d2 (w := w8) ab; obtain ⟨aw, av, cw⟩ := Kd.R_slice aj.out; subst cw; obtain ⟨aF, aE, cx⟩ := Kd.R_slice al.out; subst cx) | ((with_reducible refine G.f 34 rfl ?_); refine G.gL 17 Tryd.func34 #[.agg #[.int .i64 ai, .slice aw ae.length av], .slice aF ah.length aE] ?_; (with_reducible refine (impl_PairOk.calls k ai _ _ ae _ _ ah af _ ?side1 ?side2 ?side3 ?side4 A4.out).mono ?_); (case side1 => refine (Kd.R_reads' (e := 51) (base := w.heap.size) (ok := fun k_ => some k_ ≠ (.slice aF ah.length aE : Value).ownBlock) (n := ae.length) (c := av) ?_).2.2; exact (caff)); (case side2 => exact (Kd.R_reads' aj.out).2.1); (case side3 => refine (Kd.R_reads' (e := 51) (base := w.heap.size) (ok := fun k_ => some k_ ≠ (.slice aw ae.length av : Value).ownBlock) (n := ah.length) (c := aE) ?_).2.2; exact (cafg)); (case side4 => exact (Kd.R_reads' al.out).2.1); rintro e eb ⟨rfl, hb⟩; refine ⟨_, rfl, ?_⟩; have n0 := G.m (Kd.R_below (caff) hb); have n1 := G.m (Kd.R_below (cafg) hb); have n2 := G.m (blk_below (g := aQ) (o := .cells #[.int .i64 ai, .slice aw ae.length av] 29 (0, 0)) (by (with_reducible repeat (first | refine blk_drewN ?_ _ | refine blk_drew ?_ | refine blk_alloc ?_ _)); refine blk_put (cs := #[.int .i64 ai, .slice none 0 0]) ?_ 1 _ rfl; (with_reducible repeat (first | refine blk_drewN ?_ _ | refine blk_drew ?_ | refine blk_alloc ?_ _)); refine blk_put (cs := #[.int .i64 0, .slice none 0 0]) ?_ 0 _ rfl; (with_reducible repeat (first | refine blk_drewN ?_ _ | refine blk_drew ?_ | refine blk_alloc ?_ _)); exact ab.out) hb); have n3 := G.bs HB hb; clear aj al ab HB; revert n0 n1 n2 n3; intro aj al ab HB; (try clear hb); have ⟨bV, bW, bX, bY⟩ := G.d2 (w := eb) ab) | ((with_reducible refine G.f 20 rfl ?_); refine G.gL 19 Tryd.func20 #[.agg #[.int .i64 ai, .slice aw ae.length av]] ?_; (with_reducible refine (impl_PairOf.calls k ai (fun k_ => some k_ = (.slice aw ae.length av : Value).ownBlock) _ _ ae ag _ ?side1 A5.out ?sideT).mono ?_); (case sideT => exact lay HTb.out (G.cB HB.out)); (case side1 => exact Kd.R_V (Kd.R_tight rfl (Kd.R_types (aj.out) ab.out (by decide)))); rintro e bJ ⟨bG, rfl, aq, hb⟩; refine ⟨_, rfl, ?_⟩; have n0 := G.re aj aq hb; have n1 := G.re al aq hb; have n2 := G.m (Kd.R_lower (Kd.R_new' (Kd.R_new' (Kd.R_mono (ok' := fun k_ => True) aq (fun _ hk_ => trivial)) (Kd.R_lt (G.cR aj.out))) (Kd.R_lt (G.cR al.out))) (below_size (G.cB HB.out))); have n3 := G.bb ab hb; have n4 := G.bs HB hb; clear aj al ab HB; revert n0 n1 n2 n3 n4; intro aj al am ab HB; (try clear hb aq)))
  (try simp only [Act.put, List.setIfInBounds_toArray, List.set_cons_zero, List.set_cons_succ])
  go_cut [42] (fun ec wc => ∃ (kq : Nat) (bf : Bool), ec = .bool bf ∧ Aside0 (laws_FnPairFirst.j0 kq ah af ag bf ai ae = some r) ∧ Aside0 (kq ≤ k) ∧ Aside0 (Kd.R k51 51 wc w.heap.size (fun k_ => some k_ ≠ (bG : Value).ownBlock ∧ some k_ ≠ ((.slice aw ae.length av) : Value).ownBlock) (.slice aF ah.length aE) ah) ∧ Aside0 (Kd.R k51 51 wc w.heap.size (fun k_ => some k_ ≠ ((.slice aF ah.length aE) : Value).ownBlock ∧ some k_ ≠ ((.slice aw ae.length av) : Value).ownBlock) bG ag) ∧ Aside0 (Kd.R k51 51 wc w.heap.size (fun k_ => some k_ ≠ ((.slice aF ah.length aE) : Value).ownBlock ∧ some k_ ≠ (bG : Value).ownBlock) (.slice aw ae.length av) ae) ∧ Aside0 (wc.heap[aQ]? = some (.cells #[.int .i64 ai, (.slice aw ae.length av)] 29 (0, 0))) ∧ Aside0 (Below w.heap.size w wc))
  case first =>
   have H := b4.out; clear b4; obtain ⟨au, bK, H⟩ := G.bi H; replace H : (if (af != au) = true then (laws_FnPairFirst.j0 k ah af ag true ai ae) else ((spec_PairOf.f k ai ae).bind fun ax => ((laws_loTies.f k ag ax).bind fun az => (if az = true then (if af = true then (laws_FnPairFirst.j0 k ah af ag ((ah.length : Int) != (ag.length : Int)) ai ae) else (laws_FnPairFirst.j0 k ah af ag true ai ae)) else (laws_FnPairFirst.j0 k ah af ag true ai ae))))) = some r := H
   by_cases aU : (af != au) = true
   ·rw [if_pos aU] at H; have a7 : (af != au) = true := aU; (try (have ck : decide (af = au) = false := by simpa using aU)); (try (have cl : (af == au) = false := by simpa using aU)); (try (have en : ¬ (af = au) := by simpa using aU)); clear aU; (first | rw [a7] | (simp only [i64_w, i32_w]; rw [a7]) | skip); have H' := G.m H; clear H; have ⟨cW, cX, cY, cZ⟩ := G.d2 (w := bJ) ab
    go_wp2_with (first | ((with_reducible refine G.f 35 rfl ?_); refine G.gL 23 Tryd.func35 #[.agg #[.int .i64 ai, .slice aw ae.length av], .slice aF ah.length aE] ?_; (with_reducible refine (spec_PairOk.calls k ai _ _ ae _ _ ah au _ ?side1 ?side2 ?side3 ?side4 bK.out).mono ?_); (case side1 => exact G.cC (Kd.R_reads' aj.out).2.2); (case side2 => exact (Kd.R_reads' aj.out).2.1); (case side3 => exact G.cC (Kd.R_reads' al.out).2.2); (case side4 => exact (Kd.R_reads' al.out).2.1); rintro e eW ⟨rfl, hb⟩; refine ⟨_, rfl, ?_⟩; have n0 := G.rb aj hb; have n1 := G.rb al hb; have n2 := G.rb am hb; have n3 := G.bb ab hb; have n4 := G.bs HB hb; clear aj al am ab HB; revert n0 n1 n2 n3 n4; intro aj al am ab HB; (try clear hb)))
    go_meet
    case rel => exact ⟨_, (true), (cafa), H', ⟨by first | omega | exact Nat.le_refl _⟩, ⟨by (with_reducible repeat (first | apply Kd.R_alloc | apply Kd.R_drewN | apply Kd.R_drew)); exact Kd.R_mono al.out (fun _ hk => ⟨hk.2, hk.1⟩)⟩, ⟨by (with_reducible repeat (first | apply Kd.R_alloc | apply Kd.R_drewN | apply Kd.R_drew)); exact Kd.R_mono am.out (fun _ hk => ⟨hk.2, hk.1.2⟩)⟩, ⟨G.cR aj.out⟩, ⟨G.cb ab.out⟩, ⟨G.cB HB.out⟩⟩
   ·rw [if_neg aU] at H; have a7 : (af != au) = false := by simpa using aU
    (try (have ck : decide (af = au) = true := by simpa using aU)); (try (have cl : (af == au) = true := by simpa using aU)); clear aU; (first | rw [a7] | (simp only [i64_w, i32_w]; rw [a7]) | skip); obtain ⟨ax, b9, H⟩ := G.bi H; replace H : ((laws_loTies.f k ag ax).bind fun az => (if az = true then (if af = true then (laws_FnPairFirst.j0 k ah af ag ((ah.length : Int) != (ag.length : Int)) ai ae) else (laws_FnPairFirst.j0 k ah af ag true ai ae)) else (laws_FnPairFirst.j0 k ah af ag true ai ae))) = some r := H; obtain ⟨az, b_, H⟩ := G.bi H; replace H : (if az = true then (if af = true then (laws_FnPairFirst.j0 k ah af ag ((ah.length : Int) != (ag.length : Int)) ai ae) else (laws_FnPairFirst.j0 k ah af ag true ai ae)) else (laws_FnPairFirst.j0 k ah af ag true ai ae)) = some r := H
    by_cases bL : az = true
    ·subst bL; have H1 : (if af = true then (laws_FnPairFirst.j0 k ah af ag ((ah.length : Int) != (ag.length : Int)) ai ae) else (laws_FnPairFirst.j0 k ah af ag true ai ae)) = some r := by rw [if_pos rfl] at H; exact H
     clear H; have H := H1; clear H1
     by_cases bM : af = true
     ·subst bM; have H1 : (laws_FnPairFirst.j0 k ah true ag ((ah.length : Int) != (ag.length : Int)) ai ae) = some r := by rw [if_pos rfl] at H; exact H
      clear H; have H := H1; clear H1; have H' := G.m H; clear H; have ⟨c_, da, db, dc⟩ := G.d2 (w := bJ) ab
      go_wp2_with (first | ((with_reducible refine G.f 35 rfl ?_); refine G.gL 23 Tryd.func35 #[.agg #[.int .i64 ai, .slice aw ae.length av], .slice aF ah.length aE] ?_; (with_reducible refine (spec_PairOk.calls k ai _ _ ae _ _ ah au _ ?side1 ?side2 ?side3 ?side4 bK.out).mono ?_); (case side1 => exact G.cC (Kd.R_reads' aj.out).2.2); (case side2 => exact (Kd.R_reads' aj.out).2.1); (case side3 => exact G.cC (Kd.R_reads' al.out).2.2); (case side4 => exact (Kd.R_reads' al.out).2.1); rintro e ed ⟨rfl, hb⟩; refine ⟨_, rfl, ?_⟩; have n0 := G.rb aj hb; have n1 := G.rb al hb; have n2 := G.rb am hb; have n3 := G.bb ab hb; have n4 := G.bs HB hb; clear aj al am ab HB; revert n0 n1 n2 n3 n4; intro aj al am ab HB; (try clear hb); have ⟨dd, de, df, dg⟩ := G.d2 (w := ed) ab) | (go_at_call 19; (with_reducible refine (spec_PairOf.calls k ai _ _ ae ax _ ?side1 ?side2 b9.out).mono ?_); (case side1 => exact G.cC (Kd.R_reads' aj.out).2.2); (case side2 => exact (Kd.R_reads' aj.out).2.1); rintro e eX ⟨ca, rfl, aq, hb⟩; have n0 := G.re aj aq hb; have n1 := G.re al aq hb; have n2 := G.re am aq hb; have n3 := G.m (Kd.R_lower (Kd.R_new' (Kd.R_new' (Kd.R_new' aq (Kd.R_lt (G.cR aj.out))) (Kd.R_lt (G.cR al.out))) (Kd.R_lt (G.cR am.out))) (below_size (G.cB HB.out))); have n4 := G.bb ab hb; have n5 := G.bs HB hb; clear aj al am ab HB; revert n0 n1 n2 n3 n4 n5; intro aj al am aG ab HB; (try clear hb aq); obtain ⟨ew, ex, cy⟩ := Kd.R_slice am.out; subst cy; obtain ⟨ey, ez, cz⟩ := Kd.R_slice aG.out; subst cz) | (go_at_call 37; (with_reducible refine (laws_loTies.calls k _ _ ag _ _ ax true _ ?side1 ?side2 ?side3 ?side4 b_.out).mono ?_); (case side1 => exact G.cC (Kd.R_reads' am.out).2.2); (case side2 => exact (Kd.R_reads' am.out).2.1); (case side3 => exact G.cC (Kd.R_reads' aG.out).2.2); (case side4 => exact (Kd.R_reads' aG.out).2.1); rintro e w' ⟨rfl, ⟨nd, rfl⟩⟩))
      go_meet
      case rel => exact ⟨_, (((ah.length : Int) != (ag.length : Int))), (cafa), H', ⟨by first | omega | exact Nat.le_refl _⟩, ⟨cafd⟩, ⟨cafc⟩, ⟨cafe⟩, ⟨G.cb ab.out⟩, ⟨G.cB HB.out⟩⟩
     ·replace bM := Bool.eq_false_iff.mpr bM; subst bM; have H1 : (laws_FnPairFirst.j0 k ah false ag true ai ae) = some r := by rw [if_neg (show ¬ (false = true) by decide)] at H; exact H
      clear H; have H := H1; clear H1; have H' := G.m H; clear H; have ⟨dh, di, dj, dk⟩ := G.d2 (w := bJ) ab
      go_wp2_with (first | ((with_reducible refine G.f 35 rfl ?_); refine G.gL 23 Tryd.func35 #[.agg #[.int .i64 ai, .slice aw ae.length av], .slice aF ah.length aE] ?_; (with_reducible refine (spec_PairOk.calls k ai _ _ ae _ _ ah au _ ?side1 ?side2 ?side3 ?side4 bK.out).mono ?_); (case side1 => exact G.cC (Kd.R_reads' aj.out).2.2); (case side2 => exact (Kd.R_reads' aj.out).2.1); (case side3 => exact G.cC (Kd.R_reads' al.out).2.2); (case side4 => exact (Kd.R_reads' al.out).2.1); rintro e ee ⟨rfl, hb⟩; refine ⟨_, rfl, ?_⟩; have n0 := G.rb aj hb; have n1 := G.rb al hb; have n2 := G.rb am hb; have n3 := G.bb ab hb; have n4 := G.bs HB hb; clear aj al am ab HB; revert n0 n1 n2 n3 n4; intro aj al am ab HB; (try clear hb); have ⟨dl, dn, dp, dq⟩ := G.d2 (w := ee) ab) | (go_at_call 19; (with_reducible refine (spec_PairOf.calls k ai _ _ ae ax _ ?side1 ?side2 b9.out).mono ?_); (case side1 => exact G.cC (Kd.R_reads' aj.out).2.2); (case side2 => exact (Kd.R_reads' aj.out).2.1); rintro e eY ⟨ca, rfl, aq, hb⟩; have n0 := G.re aj aq hb; have n1 := G.re al aq hb; have n2 := G.re am aq hb; have n3 := G.m (Kd.R_lower (Kd.R_new' (Kd.R_new' (Kd.R_new' aq (Kd.R_lt (G.cR aj.out))) (Kd.R_lt (G.cR al.out))) (Kd.R_lt (G.cR am.out))) (below_size (G.cB HB.out))); have n4 := G.bb ab hb; have n5 := G.bs HB hb; clear aj al am ab HB; revert n0 n1 n2 n3 n4 n5; intro aj al am aG ab HB; (try clear hb aq); obtain ⟨eA, eB, cA⟩ := Kd.R_slice am.out; subst cA; obtain ⟨eC, eD, cD⟩ := Kd.R_slice aG.out; subst cD) | (go_at_call 37; (with_reducible refine (laws_loTies.calls k _ _ ag _ _ ax true _ ?side1 ?side2 ?side3 ?side4 b_.out).mono ?_); (case side1 => exact G.cC (Kd.R_reads' am.out).2.2); (case side2 => exact (Kd.R_reads' am.out).2.1); (case side3 => exact G.cC (Kd.R_reads' aG.out).2.2); (case side4 => exact (Kd.R_reads' aG.out).2.1); rintro e w' ⟨rfl, ⟨nd, rfl⟩⟩))
      go_meet
      case rel => exact ⟨_, (true), (cafa), H', ⟨by first | omega | exact Nat.le_refl _⟩, ⟨cafd⟩, ⟨cafc⟩, ⟨cafe⟩, ⟨G.cb ab.out⟩, ⟨G.cB HB.out⟩⟩
    ·replace bL := Bool.eq_false_iff.mpr bL; subst bL; have H1 : (laws_FnPairFirst.j0 k ah af ag true ai ae) = some r := by rw [if_neg (show ¬ (false = true) by decide)] at H; exact H
     clear H; have H := H1; clear H1; have H' := G.m H; clear H; have ⟨dr, dt, du, dv⟩ := G.d2 (w := bJ) ab
     go_wp2_with (first | ((with_reducible refine G.f 35 rfl ?_); refine G.gL 23 Tryd.func35 #[.agg #[.int .i64 ai, .slice aw ae.length av], .slice aF ah.length aE] ?_; (with_reducible refine (spec_PairOk.calls k ai _ _ ae _ _ ah au _ ?side1 ?side2 ?side3 ?side4 bK.out).mono ?_); (case side1 => exact G.cC (Kd.R_reads' aj.out).2.2); (case side2 => exact (Kd.R_reads' aj.out).2.1); (case side3 => exact G.cC (Kd.R_reads' al.out).2.2); (case side4 => exact (Kd.R_reads' al.out).2.1); rintro e ef ⟨rfl, hb⟩; refine ⟨_, rfl, ?_⟩; have n0 := G.rb aj hb; have n1 := G.rb al hb; have n2 := G.rb am hb; have n3 := G.bb ab hb; have n4 := G.bs HB hb; clear aj al am ab HB; revert n0 n1 n2 n3 n4; intro aj al am ab HB; (try clear hb); have ⟨dw, dx, dy, dz⟩ := G.d2 (w := ef) ab) | (go_at_call 19; (with_reducible refine (spec_PairOf.calls k ai _ _ ae ax _ ?side1 ?side2 b9.out).mono ?_); (case side1 => exact G.cC (Kd.R_reads' aj.out).2.2); (case side2 => exact (Kd.R_reads' aj.out).2.1); rintro e eZ ⟨ca, rfl, aq, hb⟩; have n0 := G.re aj aq hb; have n1 := G.re al aq hb; have n2 := G.re am aq hb; have n3 := G.m (Kd.R_lower (Kd.R_new' (Kd.R_new' (Kd.R_new' aq (Kd.R_lt (G.cR aj.out))) (Kd.R_lt (G.cR al.out))) (Kd.R_lt (G.cR am.out))) (below_size (G.cB HB.out))); have n4 := G.bb ab hb; have n5 := G.bs HB hb; clear aj al am ab HB; revert n0 n1 n2 n3 n4 n5; intro aj al am aG ab HB; (try clear hb aq); obtain ⟨eE, eF, cE⟩ := Kd.R_slice am.out; subst cE; obtain ⟨eG, eH, cF⟩ := Kd.R_slice aG.out; subst cF) | (go_at_call 37; (with_reducible refine (laws_loTies.calls k _ _ ag _ _ ax false _ ?side1 ?side2 ?side3 ?side4 b_.out).mono ?_); (case side1 => exact G.cC (Kd.R_reads' am.out).2.2); (case side2 => exact (Kd.R_reads' am.out).2.1); (case side3 => exact G.cC (Kd.R_reads' aG.out).2.2); (case side4 => exact (Kd.R_reads' aG.out).2.1); rintro e w' ⟨rfl, ⟨nd, rfl⟩⟩))
     go_meet
     case rel => exact ⟨_, (true), (cafa), H', ⟨by first | omega | exact Nat.le_refl _⟩, ⟨cafd⟩, ⟨cafc⟩, ⟨cafe⟩, ⟨G.cb ab.out⟩, ⟨G.cB HB.out⟩⟩
  case rest =>
   clear b4; (try clear b2 b3 bV bW b5 b6 bX bY b7 b8); obtain ⟨kq, bf, rfl, HA, e2, ap, ao, ac, ab, HB⟩ := hcut; cases kq with
   | zero => exact absurd HA.out (by simp [laws_FnPairFirst.j0])
   | succ aI =>
    have H := HA.out; clear HA; simp only [laws_FnPairFirst.j0] at H
    by_cases bN : bf = true
    ·subst bN; have H1 : ((spec_PairOk.f aI ai ae ah).bind fun ay => (if (af == ay) = true then ((spec_PairOf.f aI ai ae).bind fun aJ => ((laws_loTies.f aI ag aJ).bind fun aR => (if aR = true then (if af = true then (some (decide ((ah.length : Int) ≤ (ag.length : Int)))) else (some true)) else (some false)))) else (some false))) = some r := by rw [if_pos rfl] at H; exact H
     clear H; have H := H1; clear H1; obtain ⟨ay, bO, H⟩ := G.bi H; replace H : (if (af == ay) = true then ((spec_PairOf.f aI ai ae).bind fun aJ => ((laws_loTies.f aI ag aJ).bind fun aR => (if aR = true then (if af = true then (some (decide ((ah.length : Int) ≤ (ag.length : Int)))) else (some true)) else (some false)))) else (some false)) = some r := H
     by_cases aV : (af == ay) = true
     ·rw [if_pos aV] at H; have cm : (af == ay) = true := aV; (try (have cn : decide (af = ay) = true := by simpa using aV)); (try (have co : (af == ay) = true := by simpa using aV)); clear aV; obtain ⟨aJ, cd, H⟩ := G.bi H; replace H : ((laws_loTies.f aI ag aJ).bind fun aR => (if aR = true then (if af = true then (some (decide ((ah.length : Int) ≤ (ag.length : Int)))) else (some true)) else (some false))) = some r := H; obtain ⟨aR, ce, H⟩ := G.bi H; replace H : (if aR = true then (if af = true then (some (decide ((ah.length : Int) ≤ (ag.length : Int)))) else (some true)) else (some false)) = some r := H
      by_cases bP : aR = true
      ·subst bP; have H1 : (if af = true then (some (decide ((ah.length : Int) ≤ (ag.length : Int)))) else (some true)) = some r := by rw [if_pos rfl] at H; exact H
       clear H; have H := H1; clear H1
       by_cases bQ : af = true
       ·subst bQ; have H1 : (some (decide ((ah.length : Int) ≤ (ag.length : Int)))) = some r := by rw [if_pos rfl] at H; exact H
        clear H; have H := H1; clear H1; obtain rfl := Option.some.inj H; have ⟨dA, dB, dC, dD⟩ := G.d2 (w := wc) ab
        go_wp2_with (first | ((with_reducible refine G.f 35 rfl ?_); refine G.gL 46 Tryd.func35 #[.agg #[.int .i64 ai, .slice aw ae.length av], .slice aF ah.length aE] ?_; (with_reducible refine (spec_PairOk.calls aI ai _ _ ae _ _ ah ay _ ?side1 ?side2 ?side3 ?side4 bO.out).mono ?_); (case side1 => exact G.cC (Kd.R_reads' ac.out).2.2); (case side2 => exact (Kd.R_reads' ac.out).2.1); (case side3 => exact G.cC (Kd.R_reads' ap.out).2.2); (case side4 => exact (Kd.R_reads' ap.out).2.1); rintro e eg ⟨rfl, hb⟩; refine ⟨_, rfl, ?_⟩; have n0 := G.rb ap hb; have n1 := G.rb ao hb; have n2 := G.rb ac hb; have n3 := G.bb ab hb; have n4 := G.bs HB hb; clear ap ao ac ab HB; revert n0 n1 n2 n3 n4; intro ap ao ac ab HB; (try clear hb); have ⟨dE, dF, dG, dH⟩ := G.d2 (w := eg) ab) | (go_at_call 19; (with_reducible refine (spec_PairOf.calls aI ai _ _ ae aJ _ ?side1 ?side2 cd.out).mono ?_); (case side1 => exact G.cC (Kd.R_reads' ac.out).2.2); (case side2 => exact (Kd.R_reads' ac.out).2.1); rintro e e3 ⟨cf, rfl, aq, hb⟩; have n0 := G.re ap aq hb; have n1 := G.re ao aq hb; have n2 := G.re ac aq hb; have n3 := G.m (Kd.R_lower (Kd.R_new' (Kd.R_new' (Kd.R_new' aq (Kd.R_lt (G.cR ap.out))) (Kd.R_lt (G.cR ao.out))) (Kd.R_lt (G.cR ac.out))) (below_size (G.cB HB.out))); have n4 := G.bb ab hb; have n5 := G.bs HB hb; clear ap ao ac ab HB; revert n0 n1 n2 n3 n4 n5; intro ap ao ac aH ab HB; (try clear hb aq); obtain ⟨eI, eJ, cG⟩ := Kd.R_slice ao.out; subst cG; obtain ⟨eK, eL, cH⟩ := Kd.R_slice aH.out; subst cH) | (go_at_call 37; (with_reducible refine (laws_loTies.calls aI _ _ ag _ _ aJ true _ ?side1 ?side2 ?side3 ?side4 ce.out).mono ?_); (case side1 => exact G.cC (Kd.R_reads' ao.out).2.2); (case side2 => exact (Kd.R_reads' ao.out).2.1); (case side3 => exact G.cC (Kd.R_reads' aH.out).2.2); (case side4 => exact (Kd.R_reads' aH.out).2.1); rintro e w' ⟨rfl, ⟨nd, rfl⟩⟩))
        go_ret
        exact ⟨cafb, G.cB HB.out⟩
       ·replace bQ := Bool.eq_false_iff.mpr bQ; subst bQ; have H1 : (some true) = some r := by rw [if_neg (show ¬ (false = true) by decide)] at H; exact H
        clear H; have H := H1; clear H1; obtain rfl := Option.some.inj H; have ⟨dI, dJ, dK, dL⟩ := G.d2 (w := wc) ab
        go_wp2_with (first | ((with_reducible refine G.f 35 rfl ?_); refine G.gL 46 Tryd.func35 #[.agg #[.int .i64 ai, .slice aw ae.length av], .slice aF ah.length aE] ?_; (with_reducible refine (spec_PairOk.calls aI ai _ _ ae _ _ ah ay _ ?side1 ?side2 ?side3 ?side4 bO.out).mono ?_); (case side1 => exact G.cC (Kd.R_reads' ac.out).2.2); (case side2 => exact (Kd.R_reads' ac.out).2.1); (case side3 => exact G.cC (Kd.R_reads' ap.out).2.2); (case side4 => exact (Kd.R_reads' ap.out).2.1); rintro e eh ⟨rfl, hb⟩; refine ⟨_, rfl, ?_⟩; have n0 := G.rb ap hb; have n1 := G.rb ao hb; have n2 := G.rb ac hb; have n3 := G.bb ab hb; have n4 := G.bs HB hb; clear ap ao ac ab HB; revert n0 n1 n2 n3 n4; intro ap ao ac ab HB; (try clear hb); have ⟨dM, dN, dO, dP⟩ := G.d2 (w := eh) ab) | (go_at_call 19; (with_reducible refine (spec_PairOf.calls aI ai _ _ ae aJ _ ?side1 ?side2 cd.out).mono ?_); (case side1 => exact G.cC (Kd.R_reads' ac.out).2.2); (case side2 => exact (Kd.R_reads' ac.out).2.1); rintro e e4 ⟨cf, rfl, aq, hb⟩; have n0 := G.re ap aq hb; have n1 := G.re ao aq hb; have n2 := G.re ac aq hb; have n3 := G.m (Kd.R_lower (Kd.R_new' (Kd.R_new' (Kd.R_new' aq (Kd.R_lt (G.cR ap.out))) (Kd.R_lt (G.cR ao.out))) (Kd.R_lt (G.cR ac.out))) (below_size (G.cB HB.out))); have n4 := G.bb ab hb; have n5 := G.bs HB hb; clear ap ao ac ab HB; revert n0 n1 n2 n3 n4 n5; intro ap ao ac aH ab HB; (try clear hb aq); obtain ⟨eM, eN, cI⟩ := Kd.R_slice ao.out; subst cI; obtain ⟨eO, eP, cJ⟩ := Kd.R_slice aH.out; subst cJ) | (go_at_call 37; (with_reducible refine (laws_loTies.calls aI _ _ ag _ _ aJ true _ ?side1 ?side2 ?side3 ?side4 ce.out).mono ?_); (case side1 => exact G.cC (Kd.R_reads' ao.out).2.2); (case side2 => exact (Kd.R_reads' ao.out).2.1); (case side3 => exact G.cC (Kd.R_reads' aH.out).2.2); (case side4 => exact (Kd.R_reads' aH.out).2.1); rintro e w' ⟨rfl, ⟨nd, rfl⟩⟩))
        go_ret
        exact ⟨cafb, G.cB HB.out⟩
      ·replace bP := Bool.eq_false_iff.mpr bP; subst bP; have H1 : (some false) = some r := by rw [if_neg (show ¬ (false = true) by decide)] at H; exact H
       clear H; have H := H1; clear H1; obtain rfl := Option.some.inj H; have ⟨dQ, dR, dS, dT⟩ := G.d2 (w := wc) ab
       go_wp2_with (first | ((with_reducible refine G.f 35 rfl ?_); refine G.gL 46 Tryd.func35 #[.agg #[.int .i64 ai, .slice aw ae.length av], .slice aF ah.length aE] ?_; (with_reducible refine (spec_PairOk.calls aI ai _ _ ae _ _ ah ay _ ?side1 ?side2 ?side3 ?side4 bO.out).mono ?_); (case side1 => exact G.cC (Kd.R_reads' ac.out).2.2); (case side2 => exact (Kd.R_reads' ac.out).2.1); (case side3 => exact G.cC (Kd.R_reads' ap.out).2.2); (case side4 => exact (Kd.R_reads' ap.out).2.1); rintro e ei ⟨rfl, hb⟩; refine ⟨_, rfl, ?_⟩; have n0 := G.rb ap hb; have n1 := G.rb ao hb; have n2 := G.rb ac hb; have n3 := G.bb ab hb; have n4 := G.bs HB hb; clear ap ao ac ab HB; revert n0 n1 n2 n3 n4; intro ap ao ac ab HB; (try clear hb); have ⟨dU, dV, dW, dX⟩ := G.d2 (w := ei) ab) | (go_at_call 19; (with_reducible refine (spec_PairOf.calls aI ai _ _ ae aJ _ ?side1 ?side2 cd.out).mono ?_); (case side1 => exact G.cC (Kd.R_reads' ac.out).2.2); (case side2 => exact (Kd.R_reads' ac.out).2.1); rintro e e5 ⟨cf, rfl, aq, hb⟩; have n0 := G.re ap aq hb; have n1 := G.re ao aq hb; have n2 := G.re ac aq hb; have n3 := G.m (Kd.R_lower (Kd.R_new' (Kd.R_new' (Kd.R_new' aq (Kd.R_lt (G.cR ap.out))) (Kd.R_lt (G.cR ao.out))) (Kd.R_lt (G.cR ac.out))) (below_size (G.cB HB.out))); have n4 := G.bb ab hb; have n5 := G.bs HB hb; clear ap ao ac ab HB; revert n0 n1 n2 n3 n4 n5; intro ap ao ac aH ab HB; (try clear hb aq); obtain ⟨eQ, eR, cL⟩ := Kd.R_slice ao.out; subst cL; obtain ⟨eS, eT, cM⟩ := Kd.R_slice aH.out; subst cM) | (go_at_call 37; (with_reducible refine (laws_loTies.calls aI _ _ ag _ _ aJ false _ ?side1 ?side2 ?side3 ?side4 ce.out).mono ?_); (case side1 => exact G.cC (Kd.R_reads' ao.out).2.2); (case side2 => exact (Kd.R_reads' ao.out).2.1); (case side3 => exact G.cC (Kd.R_reads' aH.out).2.2); (case side4 => exact (Kd.R_reads' aH.out).2.1); rintro e w' ⟨rfl, ⟨nd, rfl⟩⟩))
       go_ret
       exact ⟨cafb, G.cB HB.out⟩
     ·rw [if_neg aV] at H; have cm : (af == ay) = false := by simpa using aV
      (try (have cn : decide (af = ay) = false := by simpa using aV)); (try (have co : (af == ay) = false := by simpa using aV)); (try (have eo : ¬ (af = ay) := by simpa using aV)); clear aV; obtain rfl := Option.some.inj H; have ⟨dY, dZ, d7, d8⟩ := G.d2 (w := wc) ab
      go_wp2_with (first | ((with_reducible refine G.f 35 rfl ?_); refine G.gL 46 Tryd.func35 #[.agg #[.int .i64 ai, .slice aw ae.length av], .slice aF ah.length aE] ?_; (with_reducible refine (spec_PairOk.calls aI ai _ _ ae _ _ ah ay _ ?side1 ?side2 ?side3 ?side4 bO.out).mono ?_); (case side1 => exact G.cC (Kd.R_reads' ac.out).2.2); (case side2 => exact (Kd.R_reads' ac.out).2.1); (case side3 => exact G.cC (Kd.R_reads' ap.out).2.2); (case side4 => exact (Kd.R_reads' ap.out).2.1); rintro e e6 ⟨rfl, hb⟩; refine ⟨_, rfl, ?_⟩; have n0 := G.rb ap hb; have n1 := G.rb ao hb; have n2 := G.rb ac hb; have n3 := G.bb ab hb; have n4 := G.bs HB hb; clear ap ao ac ab HB; revert n0 n1 n2 n3 n4; intro ap ao ac ab HB; (try clear hb)))
      go_ret
      exact ⟨cafb, G.cB HB.out⟩
    ·replace bN := Bool.eq_false_iff.mpr bN; subst bN; have H1 : ((laws_loLess.f aI ah ag).bind fun bc => (some (!bc))) = some r := by rw [if_neg (show ¬ (false = true) by decide)] at H; exact H
     clear H; have H := H1; clear H1; obtain ⟨bc, ej, H⟩ := G.bi H; replace H : (some (!bc)) = some r := H; obtain rfl := Option.some.inj H; obtain ⟨cN, cO, cP⟩ := Kd.R_slice ao.out; subst cP
     go_wp2_with (first | ((with_reducible refine G.f 39 rfl ?_); refine G.gL 67 Tryd.func39 #[.slice aF ah.length aE, .slice cN ag.length cO] ?_; (with_reducible refine (laws_loLess.calls aI _ _ ah _ _ ag bc _ ?side1 ?side2 ?side3 ?side4 ej.out).mono ?_); (case side1 => exact G.cC (Kd.R_reads' ap.out).2.2); (case side2 => exact (Kd.R_reads' ap.out).2.1); (case side3 => exact G.cC (Kd.R_reads' ao.out).2.2); (case side4 => exact (Kd.R_reads' ao.out).2.1); rintro e w' ⟨rfl, ⟨nd, rfl⟩⟩; refine ⟨_, rfl, ?_⟩))
     go_ret
     exact ⟨cafb, G.cB HB.out⟩

end Go.Proofs.YtjkeagcenmmknaaDoor.P
