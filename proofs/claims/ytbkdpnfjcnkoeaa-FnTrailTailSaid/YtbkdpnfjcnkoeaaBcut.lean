/- The program's cut of a tie. -/
import Derived.Test.YtbkdpnfjcnkoeaaBki
import Derived.Test.YtbkdpnfjcnkoeaaBok
import Derived.Test.YtbkdpnfjcnkoeaaF35
namespace Go.Proofs.Ytbkdpnfjcnkoeaa.P
set_option linter.unusedSimpArgs false
set_option linter.unusedVariables false
open Go.RowKit Go.Proofs.YtbkdpnfjcnkoeaaW.PrintWords Go.Proofs.Ytbkdpnfjcnkoeaa.G
theorem implHas_ev (n a b : Int) (E : List S63) (hE : (E.length : Int) < big) : Ev (fun k => impl_NetHas.f k n E a b) (decide (ok n E ∧ tieOf a b ∈ E)) := by
  unfold impl_NetHas.f
  refine Ev.bind (implOk n E hE) ?_
  by_cases c : ok n E
  · simp only [c, decide_true, if_true]
    refine Ev.bind (has_ev n a b E hE) ?_
    exact Ev.val (by simp)
  · simp only [c, decide_false, Bool.false_eq_true, if_false]
    exact Ev.val (by simp)
theorem implCut_ev (n a b : Int) (E : List S63) (hE : (E.length : Int) ≤ 1048576) :
    Ev (fun k => impl_NetCut.f k n E a b) (if ok n E ∧ tieOf a b ∈ E then (n, cut E (tieOf a b), true) else (0, [], false)) := by
  unfold impl_NetCut.f
  refine Ev.bind (implHas_ev n a b E (by unfold big; omega)) ?_
  by_cases c : ok n E ∧ tieOf a b ∈ E
  · simp only [if_pos c]
    simp only [c, and_self, decide_true, if_true, tie_eq, Option.bind_some]
    exact Ev.bind (lessOne_ev n E (tieOf a b) hE) (Ev.val rfl)
  · simp only [if_neg c]
    simp only [c, decide_false, Bool.false_eq_true, if_false]
    exact Ev.val rfl
end Go.Proofs.Ytbkdpnfjcnkoeaa.P
