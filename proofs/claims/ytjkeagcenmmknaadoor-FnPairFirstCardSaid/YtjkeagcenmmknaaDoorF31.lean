-- Printed by a program of this session (mp.py, over the kit's print). Not trusted: Lean checks it.
import Derived.Test.YtjkeagcenmmknaaDoorF0
import Derived.Test.YtjkeagcenmmknaaDoorF1
namespace Go.Proofs.YtjkeagcenmmknaaDoor.P
open Go.RowKit Go.Proofs.YtjkeagcenmmknaaDoorW.PrintWords Go.Proofs.YtjkeagcenmmknaaDoorW.PrintLast Go.Proofs.YtjkeagcenmmknaaDoorW.PrintMore
attribute [local go_sem] max2_int min2_int max_two min_two max_three min_three max_four min_four   -- for this text's walks alone
set_option linter.unusedVariables false
set_option linter.unusedSimpArgs false

theorem cad_ {p : Prop} (h : p := by first | rfl | (simp; done) | (simp [*]; done)) : p := h
attribute [local go_sem high] eqA51
/-! ### laws_loTies: function 37 -/
def laws_loTies.l0 : Nat → List (S51) → List (S51) → Int → Option (Bool)
 | 0, _, _, _ => none
 | k + 1, x0, x1, x5 => if x5 < (x0.length : Int) then (if 0 ≤ x5 then (if x5 < (x1.length : Int) then (if (!(((rd_T51 x0 x5).f0) == ((rd_T51 x1 x5).f0)) || (!(((rd_T51 x0 x5).f1) == ((rd_T51 x1 x5).f1)))) = true then (some false) else (laws_loTies.l0 k x0 x1 (wrap64 (x5 + 1)))) else (none)) else (none)) else (some true)
def laws_loTies.f (k : Nat) (l0 : List (S51)) (l1 : List (S51)) : Option (Bool) := if (l0.length : Int) = (l1.length : Int) then (laws_loTies.l0 k l0 l1 0) else (some false)
theorem laws_loTies.mono_l : ∀ k, (∀ y0 y1 y2, LeO (laws_loTies.l0 k y0 y1 y2) (laws_loTies.l0 (k + 1) y0 y1 y2))
 | 0 => fun _ _ _ r h => by simp [laws_loTies.l0] at h
 | k + 1 => by
  have ag := laws_loTies.mono_l k
  ·intro y0 y1 y2; unfold laws_loTies.l0
   repeat' first
   | (with_reducible exact ag _ _ _)
   | (with_reducible exact LeO.refl _)
   | (with_reducible exact LeO.none _)
   | (with_reducible refine LeO.ite ?_ ?_)
   | (with_reducible refine LeO.bind ?_ (fun _ => ?_))
   | exact ag _ _ _
   | exact LeO.none _
   | refine LeO.ite ?_ ?_
   | refine LeO.bind ?_ (fun _ => ?_)
theorem laws_loTies.mono : ∀ a0 a1 k, LeO (laws_loTies.f k a0 a1) (laws_loTies.f (k + 1) a0 a1) := by
 intro a0 a1 k; have ag := laws_loTies.mono_l k; unfold laws_loTies.f
 repeat' first | (with_reducible first | exact ag _ _ _ | exact LeO.refl _ | exact LeO.none _ | refine LeO.ite ?_ ?_ | refine LeO.bind ?_ (fun _ => ?_)) | exact ag _ _ _ | exact LeO.none _ | refine LeO.ite ?_ ?_ | refine LeO.bind ?_ (fun _ => ?_)
set_option maxHeartbeats 8000000 in
set_option maxRecDepth 100000 in
theorem laws_loTies.calls (k : Nat) (A0 : Option Addr) (c0 : Nat) (l0 : List (S51)) (A1 : Option Addr) (c1 : Nat) (l1 : List (S51)) (r : Bool) (w : World) (aw : Kd.C k51 w A0 l0.length l0) (ax : l0.length ≤ c0) (hr1 : Kd.C k51 w A1 l1.length l1) (ay : l1.length ≤ c1) (h : laws_loTies.f k l0 l1 = some r) :
  Calls Tryd.prog 37 #[.slice A0 l0.length c0, .slice A1 l1.length c1] w fun e w' => e = .returned (.bool r) ∧ Drawn0 w w' := by
 have aE := Tryd.underlying51; have az := G.m aw; have aH := G.m ax; clear aw ax; have aA := G.m hr1; have aI := G.m ay; clear hr1 ay; have H : (if (l0.length : Int) = (l1.length : Int) then (laws_loTies.l0 k l0 l1 0) else (some false)) = some r := h; clear h
 by_cases c3 : (l0.length : Int) = (l1.length : Int)
 ·rw [if_pos c3] at H; have ao : ((l0.length : Int) == (l1.length : Int)) = true := beq_iff_eq.mpr c3; have ap : ((l0.length : Int) != (l1.length : Int)) = false := bne_eq_false_iff_eq.mpr c3; have aq : (l0.length == l1.length) = true := by first | simpa using c3 | (simp at c3 ⊢; omega)
  clear c3; have H' := G.m H; clear H
  go_enter Tryd.func37, Tryd.ntmps37
  go_wp2
  repeat (go_quiet (fail); try go_wp2)
  go_loopg [5] k (fun kq v5 w' => ∃ (aa : Int), v5 = .int .i64 aa ∧ Aside0 (laws_loTies.l0 kq l0 l1 aa = some r) ∧ Aside0 (kq ≤ k) ∧ Drawn0 w w')
  case atStart => exact ⟨(0), (cad_), H', ⟨Nat.le_refl _⟩, by repeat (first | exact Drawn0.refl _ | apply Drawn0.step)⟩
  case round =>
   clear H'; (try clear ao ap aq); obtain ⟨aa, rfl, HA, aB, ⟨m1, rfl⟩⟩ := hrel; cases gk with
   | zero => exact absurd HA.out (by simp [laws_loTies.l0])
   | succ k1 =>
    have H := HA.out; clear HA; simp only [laws_loTies.l0] at H
    by_cases c4 : aa < (l0.length : Int)
    ·rw [if_pos c4] at H; have aC : decide (aa < (l0.length : Int)) = true := decide_eq_true c4; clear c4
     by_cases c5 : 0 ≤ aa
     ·rw [if_pos c5] at H; have aF : decide (0 ≤ aa) = true := decide_eq_true c5; clear c5
      by_cases c6 : aa < (l1.length : Int)
      ·rw [if_pos c6] at H; have aG : decide (aa < (l1.length : Int)) = true := decide_eq_true c6; clear c6
       by_cases c7 : (!(((rd_T51 l0 aa).f0) == ((rd_T51 l1 aa).f0)) || (!(((rd_T51 l0 aa).f1) == ((rd_T51 l1 aa).f1)))) = true
       ·rw [if_pos c7] at H; have aD : (!(((rd_T51 l0 aa).f0) == ((rd_T51 l1 aa).f0)) || (!(((rd_T51 l0 aa).f1) == ((rd_T51 l1 aa).f1)))) = true := c7; clear c7; obtain rfl := Option.some.inj H; have ab : 0 ≤ (aa : Int) := of_decide_eq_true (G.asm); have ac : aa < (l0.length : Int) := of_decide_eq_true (G.asm); obtain ⟨au, ah, aj, ak⟩ := at_T51 az.out aa ab ac; cases ah; replace ab := eq_true ab; replace ac := eq_true ac; have ae : 0 ≤ (aa : Int) := of_decide_eq_true (G.asm); have af : aa < (l1.length : Int) := of_decide_eq_true (G.asm); obtain ⟨av, ai, al, am⟩ := at_T51 aA.out aa ae af; cases ai; replace ae := eq_true ae; replace af := eq_true af
        go_wp2
        repeat (go_quiet (fail); try go_wp2)
        go_ret
        exact ⟨cad_, by repeat (first | exact Drawn0.refl _ | apply Drawn0.step)⟩
       ·rw [if_neg c7] at H; have aD : (!(((rd_T51 l0 aa).f0) == ((rd_T51 l1 aa).f0)) || (!(((rd_T51 l0 aa).f1) == ((rd_T51 l1 aa).f1)))) = false := by simpa using c7
        clear c7; have H' := G.m H; clear H; have ab : 0 ≤ (aa : Int) := of_decide_eq_true (G.asm); have ac : aa < (l0.length : Int) := of_decide_eq_true (G.asm); obtain ⟨au, ah, aj, ak⟩ := at_T51 az.out aa ab ac; cases ah; replace ab := eq_true ab; replace ac := eq_true ac; have ae : 0 ≤ (aa : Int) := of_decide_eq_true (G.asm); have af : aa < (l1.length : Int) := of_decide_eq_true (G.asm); obtain ⟨av, ai, al, am⟩ := at_T51 aA.out aa ae af; cases ai; replace ae := eq_true ae; replace af := eq_true af
        go_wp2
        repeat (go_quiet (fail); try go_wp2)
        go_roundg k1
        case measure => have := aB.out; omega
        case rel => exact ⟨(wrap64 (aa + 1)), (cad_), H', ⟨by have := aB.out; omega⟩, by repeat (first | exact Drawn0.refl _ | apply Drawn0.step)⟩
      ·rw [if_neg c6] at H; exact absurd H (by simp)
     ·rw [if_neg c5] at H; exact absurd H (by simp)
    ·rw [if_neg c4] at H; have aC : decide (aa < (l0.length : Int)) = false := decide_eq_false c4; clear c4; obtain rfl := Option.some.inj H
     go_wp2
     repeat (go_quiet (fail); try go_wp2)
     go_ret
     exact ⟨cad_, by repeat (first | exact Drawn0.refl _ | apply Drawn0.step)⟩
 ·rw [if_neg c3] at H; have ao : ((l0.length : Int) == (l1.length : Int)) = false := beq_eq_false_iff_ne.mpr c3; have ap : ((l0.length : Int) != (l1.length : Int)) = true := bne_iff_ne.mpr c3; have aq : (l0.length == l1.length) = false := by first | simpa using c3 | (simp at c3 ⊢; omega)
  obtain rfl := Option.some.inj H
  go_enter Tryd.func37, Tryd.ntmps37
  go_wp2
  repeat (go_quiet (fail); try go_wp2)
  go_ret
  exact ⟨cad_, by repeat (first | exact Drawn0.refl _ | apply Drawn0.step)⟩

end Go.Proofs.YtjkeagcenmmknaaDoor.P
