/- FnExactTrailOk, the plain part: the law's function answers true at every net and every row of numbers. -/
import Derived.Test.YtbkdpnfjcnkoeaaBtok
import Derived.Test.YtbkdpnfjcnkoeaaBlaw
import Derived.Test.YtbkdpnfjcnkoeaaBints
import Derived.Test.YtbkdpnfjcnkoeaaF29
namespace Go.Proofs.Ytbkdpnfjcnkoeaa.P
set_option linter.unusedSimpArgs false
set_option linter.unusedVariables false
open Go.RowKit Go.Proofs.YtbkdpnfjcnkoeaaW.PrintWords Go.Proofs.Ytbkdpnfjcnkoeaa.G

theorem FnExactTrailOk_pure (n : Int) (l : List S76) (s : List Int) (hl : l.length ≤ 9223372036854775807) (hs : s.length ≤ 9223372036854775807) : ∃ k, laws_FnExactTrailOk.f k n l s = some true := by
  refine Ev.rounds ?_
  unfold laws_FnExactTrailOk.f
  by_cases c : (s.length : Int) > 1048576
  · simp only [if_pos c]; exact Ev.val rfl
  simp only [if_neg c, szNet_some n l 1048576 (by omega) (by omega) hl, Option.bind_some]
  by_cases d : 1048576 - (l.length : Int) < 0
  · simp only [if_pos d]; exact Ev.val rfl
  simp only [if_neg d]
  have hL : (l.length : Int) ≤ 1048576 := by omega
  have hS : (s.length : Int) ≤ 1048576 := by omega
  have hLb : (l.length : Int) < big := by unfold big; omega
  have hSb : (s.length : Int) < big := by unfold big; omega
  refine Ev.bind (toNet_ev n l hL) ?_
  refine Ev.bind (toIntS_ev s hS) ?_
  refine Ev.bind (trailSpec n l s hL hS) ?_
  refine Ev.bind (toNet_ev n l hL) ?_
  refine Ev.bind (toIntS_ev s hS) ?_
  refine Ev.bind (trailImpl n l s hL hS) ?_
  simp only [bne_self_eq_false, Bool.false_eq_true, if_false]
  refine Ev.bind (toNet_ev n l hL) ?_
  refine Ev.bind (eqNet_refl n l hLb) ?_
  simp only [if_true]
  refine Ev.bind (toIntS_ev s hS) ?_
  refine Ev.bind (eqIntS_refl s hSb) ?_
  exact Ev.val rfl
end Go.Proofs.Ytbkdpnfjcnkoeaa.P
