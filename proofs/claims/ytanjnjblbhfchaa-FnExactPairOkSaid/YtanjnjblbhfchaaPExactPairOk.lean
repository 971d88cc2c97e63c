/- FnExactPairOk, the plain part: the law's function answers true at every net and all ties. -/
import Derived.Test.YtanjnjblbhfchaaBpok
import Derived.Test.YtanjnjblbhfchaaBlaw
import Derived.Test.YtanjnjblbhfchaaF13
namespace Go.Proofs.Ytanjnjblbhfchaa.P
set_option linter.unusedSimpArgs false
set_option linter.unusedVariables false
open Go.RowKit Go.Proofs.YtanjnjblbhfchaaW.PrintWords Go.Proofs.Ytanjnjblbhfchaa.G

theorem FnExactPairOk_pure (n : Int) (l s : List S51) (hl : l.length ≤ 9223372036854775807) (hs : s.length ≤ 9223372036854775807) : ∃ k, laws_FnExactPairOk.f k n l s = some true := by
  refine Ev.rounds ?_
  unfold laws_FnExactPairOk.f
  simp only [szNet_some n l 1048576 (by omega) (by omega) hl, Option.bind_some]
  by_cases d : 1048576 - (l.length : Int) < 0
  · simp only [if_pos d]; exact Ev.val rfl
  simp only [if_neg d]
  simp only [szTieS_some s (1048576 - (l.length : Int)) (by omega) (by omega) hs, Option.bind_some]
  by_cases e : 1048576 - (l.length : Int) - (s.length : Int) < 0
  · simp only [if_pos e]; exact Ev.val rfl
  simp only [if_neg e]
  have hL : (l.length : Int) ≤ 1048576 := by omega
  have hS : (s.length : Int) ≤ 1048576 := by omega
  have hLb : (l.length : Int) < big := by unfold big; omega
  have hSb : (s.length : Int) < big := by unfold big; omega
  refine Ev.bind (toNet_ev n l hL) ?_
  refine Ev.bind (toTieS_ev s hS) ?_
  refine Ev.bind (pairSpec n l s hLb hSb) ?_
  refine Ev.bind (toNet_ev n l hL) ?_
  refine Ev.bind (toTieS_ev s hS) ?_
  refine Ev.bind (pairImpl n l s hLb hS) ?_
  simp only [bne_self_eq_false, Bool.false_eq_true, if_false]
  refine Ev.bind (toNet_ev n l hL) ?_
  refine Ev.bind (eqNet_refl n l hLb) ?_
  simp only [if_true]
  refine Ev.bind (toTieS_ev s hS) ?_
  refine Ev.bind (eqTieS_refl s hSb) ?_
  exact Ev.val rfl
end Go.Proofs.Ytanjnjblbhfchaa.P
