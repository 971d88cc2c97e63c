-- Printed by a program of this session (mp.py, over the kit's print). Not trusted: Lean checks it.
import Derived.Test.YtgeonpciodepgaaF0
import Derived.Test.YtgeonpciodepgaaF28
namespace Go.Proofs.Ytgeonpciodepgaa.P
open Go.RowKit Go.Proofs.YtgeonpciodepgaaW.PrintWords Go.Proofs.YtgeonpciodepgaaW.PrintLast Go.Proofs.YtgeonpciodepgaaW.PrintMore
attribute [local go_sem] max2_int min2_int max_two min_two max_three min_three max_four min_four   -- for this text's walks alone
set_option linter.unusedVariables false
set_option linter.unusedSimpArgs false

theorem cac8 {p : Prop} (h : p := by first | rfl | (simp; done) | (simp [*]; done)) : p := h
/-! ### laws_eqIntSS: function 21 -/
def laws_eqIntSS.l0 : Nat → List (List Int) → List (List Int) → Int → Option (Bool)
 | 0, _, _, _ => none
 | k + 1, x0, x1, x5 => if x5 < (x0.length : Int) then (if 0 ≤ x5 then (if x5 < (x1.length : Int) then ((laws_eqIntS.f k (rd_L2 x0 x5) (rd_L2 x1 x5)).bind fun ap => (if ap = true then (laws_eqIntSS.l0 k x0 x1 (wrap64 (x5 + 1))) else (some false))) else (none)) else (none)) else (some true)
def laws_eqIntSS.f (k : Nat) (l0 : List (List Int)) (l1 : List (List Int)) : Option (Bool) := if (l0.length : Int) = (l1.length : Int) then (laws_eqIntSS.l0 k l0 l1 0) else (some false)
theorem laws_eqIntSS.mono_l : ∀ k, (∀ y0 y1 y2, LeO (laws_eqIntSS.l0 k y0 y1 y2) (laws_eqIntSS.l0 (k + 1) y0 y1 y2))
 | 0 => fun _ _ _ r h => by simp [laws_eqIntSS.l0] at h
 | k + 1 => by
  have aq := laws_eqIntSS.mono_l k
  ·intro y0 y1 y2; unfold laws_eqIntSS.l0
   repeat' first
   | (with_reducible exact aq _ _ _)
   | (with_reducible exact laws_eqIntS.mono _ _ _)
   | (with_reducible exact LeO.refl _)
   | (with_reducible exact LeO.none _)
   | (with_reducible refine LeO.ite ?_ ?_)
   | (with_reducible refine LeO.bind ?_ (fun _ => ?_))
   | exact aq _ _ _
   | exact laws_eqIntS.mono _ _ _
   | exact LeO.none _
   | refine LeO.ite ?_ ?_
   | refine LeO.bind ?_ (fun _ => ?_)
theorem laws_eqIntSS.mono : ∀ a0 a1 k, LeO (laws_eqIntSS.f k a0 a1) (laws_eqIntSS.f (k + 1) a0 a1) := by
 intro a0 a1 k; have aq := laws_eqIntSS.mono_l k; unfold laws_eqIntSS.f
 repeat' first | (with_reducible first | exact aq _ _ _ | exact laws_eqIntS.mono _ _ _ | exact LeO.refl _ | exact LeO.none _ | refine LeO.ite ?_ ?_ | refine LeO.bind ?_ (fun _ => ?_)) | exact aq _ _ _ | exact laws_eqIntS.mono _ _ _ | exact LeO.none _ | refine LeO.ite ?_ ?_ | refine LeO.bind ?_ (fun _ => ?_)
set_option maxHeartbeats 8000000 in
set_option maxRecDepth 100000 in
theorem laws_eqIntSS.calls (k : Nat) (A0 : Option Addr) (c0 : Nat) (l0 : List (List Int)) (A1 : Option Addr) (c1 : Nat) (l1 : List (List Int)) (r : Bool) (w : World) (aH : Kd.C (Kd.slice 3 (Kd.int .i64)) w A0 l0.length l0) (aI : l0.length ≤ c0) (hr1 : Kd.C (Kd.slice 3 (Kd.int .i64)) w A1 l1.length l1) (aJ : l1.length ≤ c1) (h : laws_eqIntSS.f k l0 l1 = some r) :
  Calls Try.prog 21 #[.slice A0 l0.length c0, .slice A1 l1.length c1] w fun e w' => e = .returned (.bool r) ∧ Drawn0 w w' := by
 have aK := G.m aH; have aQ := G.m aI; clear aH aI; have aL := G.m hr1; have aR := G.m aJ; clear hr1 aJ; have H : (if (l0.length : Int) = (l1.length : Int) then (laws_eqIntSS.l0 k l0 l1 0) else (some false)) = some r := h; clear h
 by_cases c3 : (l0.length : Int) = (l1.length : Int)
 ·rw [if_pos c3] at H; have ay : ((l0.length : Int) == (l1.length : Int)) = true := beq_iff_eq.mpr c3; have az : ((l0.length : Int) != (l1.length : Int)) = false := bne_eq_false_iff_eq.mpr c3; have aA : (l0.length == l1.length) = true := by first | simpa using c3 | (simp at c3 ⊢; omega)
  clear c3; have H' := G.m H; clear H
  go_enter Try.func21, Try.ntmps21
  go_wp2
  repeat (go_quiet (fail); try go_wp2)
  go_loopg [5] k (fun kq v5 w' => ∃ (aa : Int), v5 = .int .i64 aa ∧ Aside0 (laws_eqIntSS.l0 kq l0 l1 aa = some r) ∧ Aside0 (kq ≤ k) ∧ Drawn0 w w')
  case atStart => exact ⟨(0), (cac8), H', ⟨Nat.le_refl _⟩, by repeat (first | exact Drawn0.refl _ | apply Drawn0.step)⟩
  case round =>
   clear H'; (try clear ay az aA); obtain ⟨aa, rfl, HA, aM, ⟨m1, rfl⟩⟩ := hrel; cases gk with
   | zero => exact absurd HA.out (by simp [laws_eqIntSS.l0])
   | succ k1 =>
    have H := HA.out; clear HA; simp only [laws_eqIntSS.l0] at H
    by_cases c4 : aa < (l0.length : Int)
    ·rw [if_pos c4] at H; have aN : decide (aa < (l0.length : Int)) = true := decide_eq_true c4; clear c4
     by_cases c5 : 0 ≤ aa
     ·rw [if_pos c5] at H; have aO : decide (0 ≤ aa) = true := decide_eq_true c5; clear c5
      by_cases c6 : aa < (l1.length : Int)
      ·rw [if_pos c6] at H; have aP : decide (aa < (l1.length : Int)) = true := decide_eq_true c6; clear c6; obtain ⟨ap, A7, H⟩ := G.bi H; replace H : (if ap = true then (laws_eqIntSS.l0 k1 l0 l1 (wrap64 (aa + 1))) else (some false)) = some r := H
       by_cases c8 : ap = true
       ·subst c8; have H1 : (laws_eqIntSS.l0 k1 l0 l1 (wrap64 (aa + 1))) = some r := by rw [if_pos rfl] at H; exact H
        clear H; have H := H1; clear H1; have H' := G.m H; clear H; have ak : 0 ≤ (aa : Int) := of_decide_eq_true (G.asm); have al : aa < (l0.length : Int) := of_decide_eq_true (G.asm); obtain ⟨aF, aB, aC, au, aw, ag, ah⟩ := at_L2 aK.out aa ak al; cases au; have ab := G.m ah; have ac := G.m ag; clear ah ag; replace ak := eq_true ak; replace al := eq_true al; have am : 0 ≤ (aa : Int) := of_decide_eq_true (G.asm); have ao : aa < (l1.length : Int) := of_decide_eq_true (G.asm); obtain ⟨aG, aD, aE, av, ax, ai, aj⟩ := at_L2 aL.out aa am ao; cases av; have ae := G.m aj; have af := G.m ai; clear aj ai; replace am := eq_true am; replace ao := eq_true ao
        go_wp2_with (first | (go_at_call 56; (with_reducible refine (laws_eqIntS.calls k1 _ _ (rd_L2 l0 aa) _ _ (rd_L2 l1 aa) true _ ?side1 ?side2 ?side3 ?side4 A7.out).mono ?_); (case side1 => exact G.cC ab.out); (case side2 => exact ac.out); (case side3 => exact G.cC ae.out); (case side4 => exact af.out); rintro e w' ⟨rfl, ⟨nd, rfl⟩⟩; (try first | exact ⟨rfl, _, World.drewN_drewN _ _ _⟩ | exact ⟨rfl, _, Eq.trans (World.drewN_drewN _ _ _) (congrArg (World.drewN _) (Nat.add_assoc _ _ _))⟩)))
        repeat (go_quiet (first | (go_at_call 56; (with_reducible refine (laws_eqIntS.calls k1 _ _ (rd_L2 l0 aa) _ _ (rd_L2 l1 aa) true _ ?side1 ?side2 ?side3 ?side4 A7.out).mono ?_); (case side1 => exact G.cC ab.out); (case side2 => exact ac.out); (case side3 => exact G.cC ae.out); (case side4 => exact af.out); rintro e w' ⟨rfl, ⟨nd, rfl⟩⟩; (try first | exact ⟨rfl, _, World.drewN_drewN _ _ _⟩ | exact ⟨rfl, _, Eq.trans (World.drewN_drewN _ _ _) (congrArg (World.drewN _) (Nat.add_assoc _ _ _))⟩))); try go_wp2_with (first | (go_at_call 56; (with_reducible refine (laws_eqIntS.calls k1 _ _ (rd_L2 l0 aa) _ _ (rd_L2 l1 aa) true _ ?side1 ?side2 ?side3 ?side4 A7.out).mono ?_); (case side1 => exact G.cC ab.out); (case side2 => exact ac.out); (case side3 => exact G.cC ae.out); (case side4 => exact af.out); rintro e w' ⟨rfl, ⟨nd, rfl⟩⟩; (try first | exact ⟨rfl, _, World.drewN_drewN _ _ _⟩ | exact ⟨rfl, _, Eq.trans (World.drewN_drewN _ _ _) (congrArg (World.drewN _) (Nat.add_assoc _ _ _))⟩))))
        go_roundg k1
        case measure => have := aM.out; omega
        case rel => exact ⟨(wrap64 (aa + 1)), (cac8), H', ⟨by have := aM.out; omega⟩, by repeat (first | exact Drawn0.refl _ | apply Drawn0.step)⟩
       ·replace c8 := Bool.eq_false_iff.mpr c8; subst c8; have H1 : (some false) = some r := by rw [if_neg (show ¬ (false = true) by decide)] at H; exact H
        clear H; have H := H1; clear H1; obtain rfl := Option.some.inj H; have ak : 0 ≤ (aa : Int) := of_decide_eq_true (G.asm); have al : aa < (l0.length : Int) := of_decide_eq_true (G.asm); obtain ⟨aF, aB, aC, au, aw, ag, ah⟩ := at_L2 aK.out aa ak al; cases au; have ab := G.m ah; have ac := G.m ag; clear ah ag; replace ak := eq_true ak; replace al := eq_true al; have am : 0 ≤ (aa : Int) := of_decide_eq_true (G.asm); have ao : aa < (l1.length : Int) := of_decide_eq_true (G.asm); obtain ⟨aG, aD, aE, av, ax, ai, aj⟩ := at_L2 aL.out aa am ao; cases av; have ae := G.m aj; have af := G.m ai; clear aj ai; replace am := eq_true am; replace ao := eq_true ao
        go_wp2_with (first | (go_at_call 56; (with_reducible refine (laws_eqIntS.calls k1 _ _ (rd_L2 l0 aa) _ _ (rd_L2 l1 aa) false _ ?side1 ?side2 ?side3 ?side4 A7.out).mono ?_); (case side1 => exact G.cC ab.out); (case side2 => exact ac.out); (case side3 => exact G.cC ae.out); (case side4 => exact af.out); rintro e w' ⟨rfl, ⟨nd, rfl⟩⟩; (try first | exact ⟨rfl, _, World.drewN_drewN _ _ _⟩ | exact ⟨rfl, _, Eq.trans (World.drewN_drewN _ _ _) (congrArg (World.drewN _) (Nat.add_assoc _ _ _))⟩)))
        repeat (go_quiet (first | (go_at_call 56; (with_reducible refine (laws_eqIntS.calls k1 _ _ (rd_L2 l0 aa) _ _ (rd_L2 l1 aa) false _ ?side1 ?side2 ?side3 ?side4 A7.out).mono ?_); (case side1 => exact G.cC ab.out); (case side2 => exact ac.out); (case side3 => exact G.cC ae.out); (case side4 => exact af.out); rintro e w' ⟨rfl, ⟨nd, rfl⟩⟩; (try first | exact ⟨rfl, _, World.drewN_drewN _ _ _⟩ | exact ⟨rfl, _, Eq.trans (World.drewN_drewN _ _ _) (congrArg (World.drewN _) (Nat.add_assoc _ _ _))⟩))); try go_wp2_with (first | (go_at_call 56; (with_reducible refine (laws_eqIntS.calls k1 _ _ (rd_L2 l0 aa) _ _ (rd_L2 l1 aa) false _ ?side1 ?side2 ?side3 ?side4 A7.out).mono ?_); (case side1 => exact G.cC ab.out); (case side2 => exact ac.out); (case side3 => exact G.cC ae.out); (case side4 => exact af.out); rintro e w' ⟨rfl, ⟨nd, rfl⟩⟩; (try first | exact ⟨rfl, _, World.drewN_drewN _ _ _⟩ | exact ⟨rfl, _, Eq.trans (World.drewN_drewN _ _ _) (congrArg (World.drewN _) (Nat.add_assoc _ _ _))⟩))))
        go_ret
        exact ⟨cac8, by repeat (first | exact Drawn0.refl _ | apply Drawn0.step)⟩
      ·rw [if_neg c6] at H; exact absurd H (by simp)
     ·rw [if_neg c5] at H; exact absurd H (by simp)
    ·rw [if_neg c4] at H; have aN : decide (aa < (l0.length : Int)) = false := decide_eq_false c4; clear c4; obtain rfl := Option.some.inj H
     go_wp2
     repeat (go_quiet (fail); try go_wp2)
     go_ret
     exact ⟨cac8, by repeat (first | exact Drawn0.refl _ | apply Drawn0.step)⟩
 ·rw [if_neg c3] at H; have ay : ((l0.length : Int) == (l1.length : Int)) = false := beq_eq_false_iff_ne.mpr c3; have az : ((l0.length : Int) != (l1.length : Int)) = true := bne_iff_ne.mpr c3; have aA : (l0.length == l1.length) = false := by first | simpa using c3 | (simp at c3 ⊢; omega)
  obtain rfl := Option.some.inj H
  go_enter Try.func21, Try.ntmps21
  go_wp2
  repeat (go_quiet (fail); try go_wp2)
  go_ret
  exact ⟨cac8, by repeat (first | exact Drawn0.refl _ | apply Drawn0.step)⟩

end Go.Proofs.Ytgeonpciodepgaa.P
