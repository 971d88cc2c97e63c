-- Printed by a program of this session (mp.py, over the kit's print). Not trusted: Lean checks it.
import Derived.Test.YtgeonpciodepgaaF0
namespace Go.Proofs.Ytgeonpciodepgaa.P
open Go.RowKit Go.Proofs.YtgeonpciodepgaaW.PrintWords Go.Proofs.YtgeonpciodepgaaW.PrintLast Go.Proofs.YtgeonpciodepgaaW.PrintMore
attribute [local go_sem] max2_int min2_int max_two min_two max_three min_three max_four min_four   -- for this text's walks alone
set_option linter.unusedVariables false
set_option linter.unusedSimpArgs false

/-! ### spec_l22Open: function 83 -/
def spec_l22Open.f (l0 : List Int) : Option (Bool) := if (l0.length : Int) > 0 then (if 0 < (l0.length : Int) then (if 0 ≤ (wrap64 ((l0.length : Int) - 1)) then (if (wrap64 ((l0.length : Int) - 1)) < (l0.length : Int) then (some ((rd l0 0) != (rd l0 (wrap64 ((l0.length : Int) - 1))))) else (none)) else (none)) else (none)) else (some false)
set_option maxHeartbeats 8000000 in
set_option maxRecDepth 100000 in
theorem spec_l22Open.calls (A0 : Option Addr) (c0 : Nat) (l0 : List Int) (r : Bool) (w : World) (ak : Kd.C (Kd.int .i64) w A0 l0.length l0) (al : l0.length ≤ c0) (h : spec_l22Open.f l0 = some r) :
  Calls Try.prog 83 #[.slice A0 l0.length c0] w fun e w' => e = .returned (.bool r) ∧ Drawn0 w w' := by
 have am := G.m ak; have aC := G.m al; clear ak al; have H : (if (l0.length : Int) > 0 then (if 0 < (l0.length : Int) then (if 0 ≤ (wrap64 ((l0.length : Int) - 1)) then (if (wrap64 ((l0.length : Int) - 1)) < (l0.length : Int) then (some ((rd l0 0) != (rd l0 (wrap64 ((l0.length : Int) - 1))))) else (none)) else (none)) else (none)) else (some false)) = some r := h; clear h
 by_cases c2 : (l0.length : Int) > 0
 ·rw [if_pos c2] at H; have ao : decide (0 < (l0.length : Int)) = true := decide_eq_true c2; have ap : decide (0 < l0.length) = true := decide_eq_true (by omega); clear c2
  by_cases c3 : 0 < (l0.length : Int)
  ·rw [if_pos c3] at H; have ay : decide (0 < (l0.length : Int)) = true := decide_eq_true c3; have az : decide (0 < l0.length) = true := decide_eq_true (by omega); clear c3; obtain ⟨aa, ac⟩ : ∃ j_ : Int, (wrap64 ((l0.length : Int) - 1)) = j_ := ⟨_, rfl⟩; replace H : (if 0 ≤ (aa) then (if (aa) < (l0.length : Int) then (some ((rd l0 0) != (rd l0 (aa)))) else (none)) else (none)) = some r := by first | (rw [ac] at H; exact H) | (simp only [ac] at H ⊢; exact H)
   have aw : (IntKind.i64.wrap ((l0.length : Int) - 1)) = aa := (i64_w _).trans ac
   by_cases c5 : 0 ≤ (aa)
   ·rw [if_pos c5] at H; have aA : decide (0 ≤ (aa)) = true := decide_eq_true c5; clear c5
    by_cases c6 : (aa) < (l0.length : Int)
    ·rw [if_pos c6] at H; have aB : decide ((aa) < (l0.length : Int)) = true := decide_eq_true c6; clear c6; obtain rfl := Option.some.inj H; have ae : 0 ≤ (0 : Int) := (by omega); have af : 0 < (l0.length : Int) := of_decide_eq_true (G.asm); obtain ⟨ai, aq, ab⟩ := Kd.at_int am.out 0 ae af; cases aq; have ax : (0 < l0.length) = True := eq_true (by omega); (try rw [show ((0 : Int)).toNat = 0 from rfl] at ab); (try rw [Addr.add_zero'] at ab); replace ae := eq_true ae; replace af := eq_true af; have ag : 0 ≤ ((aa) : Int) := of_decide_eq_true (G.asm); have ah : (aa) < (l0.length : Int) := of_decide_eq_true (G.asm); obtain ⟨aj, au, av⟩ := Kd.at_int am.out (aa) ag ah; obtain rfl : ai = aj := (by injection au); replace ag := eq_true ag; replace ah := eq_true ah
     go_enter Try.func83, Try.ntmps83
     go_wp2
     repeat (go_quiet (fail); try go_wp2)
     go_ret
     exact ⟨by first | rfl | (simp; done) | (simp only [← ac] <;> (first | rfl | simp)) | (simp [*]; done), by repeat (first | exact Drawn0.refl _ | apply Drawn0.step)⟩
    ·rw [if_neg c6] at H; exact absurd H (by simp)
   ·rw [if_neg c5] at H; exact absurd H (by simp)
  ·rw [if_neg c3] at H; exact absurd H (by simp)
 ·rw [if_neg c2] at H; have ao : decide (0 < (l0.length : Int)) = false := decide_eq_false c2; have ap : decide (0 < l0.length) = false := decide_eq_false (by omega); clear c2; obtain rfl := Option.some.inj H
  go_enter Try.func83, Try.ntmps83
  go_wp2
  repeat (go_quiet (fail); try go_wp2)
  go_ret
  exact ⟨by first | rfl | (simp; done) | (simp [*]; done), by repeat (first | exact Drawn0.refl _ | apply Drawn0.step)⟩

end Go.Proofs.Ytgeonpciodepgaa.P
