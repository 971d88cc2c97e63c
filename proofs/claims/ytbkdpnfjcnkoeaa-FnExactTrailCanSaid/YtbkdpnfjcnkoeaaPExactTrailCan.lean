/- FnExactTrailCan, the plain part: the law's function answers true at every net and every number. -/
import Derived.Test.YtbkdpnfjcnkoeaaBtcan
import Derived.Test.YtbkdpnfjcnkoeaaBlaw
import Derived.Test.YtbkdpnfjcnkoeaaF27
namespace Go.Proofs.Ytbkdpnfjcnkoeaa.P
set_option linter.unusedSimpArgs false
set_option linter.unusedVariables false
open Go.RowKit Go.Proofs.YtbkdpnfjcnkoeaaW.PrintWords Go.Proofs.Ytbkdpnfjcnkoeaa.G

theorem FnExactTrailCan_pure (n : Int) (l : List S76) (a : Int) (hl : l.length ≤ 9223372036854775807) (_h0 : -9223372036854775808 ≤ a) (_h1 : a ≤ 9223372036854775807) : ∃ k, laws_FnExactTrailCan.f k n l a = some true := by
  refine Ev.rounds ?_
  unfold laws_FnExactTrailCan.f
  simp only [szNet_some n l 1048576 (by omega) (by omega) hl, Option.bind_some]
  by_cases d : 1048576 - (l.length : Int) < 0
  · simp only [if_pos d]; exact Ev.val rfl
  simp only [if_neg d]
  have hL : (l.length : Int) ≤ 1048576 := by omega
  have hLb : (l.length : Int) < big := by unfold big; omega
  obtain ⟨b, b1, b2⟩ := (tcanSpec n a l hLb).same (tcanImpl n a l hLb)
  refine Ev.bind (toNet_ev n l hL) ?_
  refine Ev.bind b1 ?_
  refine Ev.bind (toNet_ev n l hL) ?_
  refine Ev.bind b2 ?_
  simp only [bne_self_eq_false, Bool.false_eq_true, if_false]
  refine Ev.bind (toNet_ev n l hL) ?_
  refine Ev.bind (eqNet_refl n l hLb) ?_
  simp only [if_true]
  exact Ev.val rfl
end Go.Proofs.Ytbkdpnfjcnkoeaa.P
