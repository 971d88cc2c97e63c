-- Printed by a program of this session (mp.py, over the kit's print). Not trusted: Lean checks it.
import Derived.Test.YtjkeagcenmmknaaDoorF0
namespace Go.Proofs.YtjkeagcenmmknaaDoor.P
open Go.RowKit Go.Proofs.YtjkeagcenmmknaaDoorW.PrintWords Go.Proofs.YtjkeagcenmmknaaDoorW.PrintLast Go.Proofs.YtjkeagcenmmknaaDoorW.PrintMore
attribute [local go_sem] max2_int min2_int max_two min_two max_three min_three max_four min_four   -- for this text's walks alone
set_option linter.unusedVariables false
set_option linter.unusedSimpArgs false

theorem caeo {p : Prop} (h : p := by first | rfl | (simp; done) | (simp [*]; done)) : p := h
/-! ### laws_heldTieS: function 24 -/
def laws_heldTieS.l0 : Nat → List (S51) → Int → Int → Option (Int)
 | 0, _, _, _ => none
 | k + 1, x0, x1, x5 => if x5 < (x0.length : Int) then (if 0 ≤ x5 then (if ((rd_T51 x0 x5).f0) = x1 then (if ((rd_T51 x0 x5).f1) = (wrap64 (x1 + 1)) then (laws_heldTieS.l0 k x0 (wrap64 ((wrap64 (x1 + 1)) + 1)) (wrap64 (x5 + 1))) else (some (-1))) else (some (-1))) else (none)) else (some x1)
def laws_heldTieS.f (k : Nat) (l0 : List (S51)) (a1 : Int) : Option (Int) := laws_heldTieS.l0 k l0 a1 0
theorem laws_heldTieS.mono_l : ∀ k, (∀ y0 y1 y2, LeO (laws_heldTieS.l0 k y0 y1 y2) (laws_heldTieS.l0 (k + 1) y0 y1 y2))
 | 0 => fun _ _ _ r h => by simp [laws_heldTieS.l0] at h
 | k + 1 => by
  have am := laws_heldTieS.mono_l k
  ·intro y0 y1 y2; unfold laws_heldTieS.l0
   repeat' first
   | (with_reducible exact am _ _ _)
   | (with_reducible exact LeO.refl _)
   | (with_reducible exact LeO.none _)
   | (with_reducible refine LeO.ite ?_ ?_)
   | (with_reducible refine LeO.bind ?_ (fun _ => ?_))
   | exact am _ _ _
   | exact LeO.none _
   | refine LeO.ite ?_ ?_
   | refine LeO.bind ?_ (fun _ => ?_)
theorem laws_heldTieS.mono : ∀ a0 a1 k, LeO (laws_heldTieS.f k a0 a1) (laws_heldTieS.f (k + 1) a0 a1) := by
 intro a0 a1 k; have am := laws_heldTieS.mono_l k; unfold laws_heldTieS.f
 repeat' first | (with_reducible first | exact am _ _ _ | exact LeO.refl _ | exact LeO.none _ | refine LeO.ite ?_ ?_ | refine LeO.bind ?_ (fun _ => ?_)) | exact am _ _ _ | exact LeO.none _ | refine LeO.ite ?_ ?_ | refine LeO.bind ?_ (fun _ => ?_)
set_option maxHeartbeats 8000000 in
set_option maxRecDepth 100000 in
theorem laws_heldTieS.calls (k : Nat) (A0 : Option Addr) (c0 : Nat) (l0 : List (S51)) (a1 : Int) (r : Int) (w : World) (av : Kd.C k51 w A0 l0.length l0) (aw : l0.length ≤ c0) (h : laws_heldTieS.f k l0 a1 = some r) :
  Calls Tryd.prog 24 #[.slice A0 l0.length c0, .int .i64 a1] w fun e w' => e = .returned (.int .i64 r) ∧ Drawn0 w w' := by
 have ao := G.m av; have aE := G.m aw; clear av aw; have H : (laws_heldTieS.l0 k l0 a1 0) = some r := h; clear h; have H' := G.m H; clear H
 go_enter Tryd.func24, Tryd.ntmps24
 go_wp2
 go_loopg [1, 5] k (fun kq v1 v5 w' => ∃ (ab : Int) (aa : Int), v1 = .int .i64 ab ∧ v5 = .int .i64 aa ∧ Aside0 (laws_heldTieS.l0 kq l0 ab aa = some r) ∧ Aside0 (kq ≤ k) ∧ Drawn0 w w')
 case atStart => exact ⟨(a1), (0), (caeo), (caeo), H', ⟨Nat.le_refl _⟩, by repeat (first | exact Drawn0.refl _ | apply Drawn0.step)⟩
 case round =>
  clear H'; obtain ⟨ab, aa, rfl, rfl, HA, ax, ⟨m1, rfl⟩⟩ := hrel; cases gk with
  | zero => exact absurd HA.out (by simp [laws_heldTieS.l0])
  | succ k1 =>
   have H := HA.out; clear HA; simp only [laws_heldTieS.l0] at H
   by_cases c3 : aa < (l0.length : Int)
   ·rw [if_pos c3] at H; have ay : decide (aa < (l0.length : Int)) = true := decide_eq_true c3; clear c3
    by_cases c4 : 0 ≤ aa
    ·rw [if_pos c4] at H; have aD : decide (0 ≤ aa) = true := decide_eq_true c4; clear c4
     by_cases c5 : ((rd_T51 l0 aa).f0) = ab
     ·rw [if_pos c5] at H; have az : (((rd_T51 l0 aa).f0) == ab) = true := beq_iff_eq.mpr c5; have aA : (((rd_T51 l0 aa).f0) != ab) = false := bne_eq_false_iff_eq.mpr c5; clear c5
      by_cases c6 : ((rd_T51 l0 aa).f1) = (wrap64 (ab + 1))
      ·rw [if_pos c6] at H; have aB : (((rd_T51 l0 aa).f1) == (wrap64 (ab + 1))) = true := beq_iff_eq.mpr c6; have aC : (((rd_T51 l0 aa).f1) != (wrap64 (ab + 1))) = false := bne_eq_false_iff_eq.mpr c6; clear c6; have H' := G.m H; clear H; have ac : 0 ≤ (aa : Int) := of_decide_eq_true (G.asm); have ae : aa < (l0.length : Int) := of_decide_eq_true (G.asm); obtain ⟨ah, ai, aj, ak⟩ := at_T51 ao.out aa ac ae; cases ai; replace ac := eq_true ac; replace ae := eq_true ae; have af : 0 ≤ (aa : Int) := of_decide_eq_true (G.asm); have ag : aa < (l0.length : Int) := of_decide_eq_true (G.asm); obtain ⟨al, ap, aq, au⟩ := at_T51 ao.out aa af ag; obtain rfl : ah = al := (by injection ap); replace af := eq_true af; replace ag := eq_true ag
       go_wp2
       go_roundg k1
       case measure => have := ax.out; omega
       case rel => exact ⟨(wrap64 ((wrap64 (ab + 1)) + 1)), (wrap64 (aa + 1)), (caeo), (caeo), H', ⟨by have := ax.out; omega⟩, by repeat (first | exact Drawn0.refl _ | apply Drawn0.step)⟩
      ·rw [if_neg c6] at H; have aB : (((rd_T51 l0 aa).f1) == (wrap64 (ab + 1))) = false := beq_eq_false_iff_ne.mpr c6; have aC : (((rd_T51 l0 aa).f1) != (wrap64 (ab + 1))) = true := bne_iff_ne.mpr c6; obtain rfl := Option.some.inj H; have ac : 0 ≤ (aa : Int) := of_decide_eq_true (G.asm); have ae : aa < (l0.length : Int) := of_decide_eq_true (G.asm); obtain ⟨ah, ai, aj, ak⟩ := at_T51 ao.out aa ac ae; cases ai; replace ac := eq_true ac; replace ae := eq_true ae; have af : 0 ≤ (aa : Int) := of_decide_eq_true (G.asm); have ag : aa < (l0.length : Int) := of_decide_eq_true (G.asm); obtain ⟨al, ap, aq, au⟩ := at_T51 ao.out aa af ag; obtain rfl : ah = al := (by injection ap); replace af := eq_true af; replace ag := eq_true ag
       go_wp2
       go_ret
       exact ⟨caeo, by repeat (first | exact Drawn0.refl _ | apply Drawn0.step)⟩
     ·rw [if_neg c5] at H; have az : (((rd_T51 l0 aa).f0) == ab) = false := beq_eq_false_iff_ne.mpr c5; have aA : (((rd_T51 l0 aa).f0) != ab) = true := bne_iff_ne.mpr c5; obtain rfl := Option.some.inj H; have ac : 0 ≤ (aa : Int) := of_decide_eq_true (G.asm); have ae : aa < (l0.length : Int) := of_decide_eq_true (G.asm); obtain ⟨ah, ai, aj, ak⟩ := at_T51 ao.out aa ac ae; cases ai; replace ac := eq_true ac; replace ae := eq_true ae
      go_wp2
      go_ret
      exact ⟨caeo, by repeat (first | exact Drawn0.refl _ | apply Drawn0.step)⟩
    ·rw [if_neg c4] at H; exact absurd H (by simp)
   ·rw [if_neg c3] at H; have ay : decide (aa < (l0.length : Int)) = false := decide_eq_false c3; clear c3; obtain rfl := Option.some.inj H
    go_wp2
    go_ret
    exact ⟨caeo, by repeat (first | exact Drawn0.refl _ | apply Drawn0.step)⟩

end Go.Proofs.YtjkeagcenmmknaaDoor.P
