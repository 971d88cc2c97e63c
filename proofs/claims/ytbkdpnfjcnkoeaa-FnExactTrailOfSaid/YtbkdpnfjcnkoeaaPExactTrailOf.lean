/- FnExactTrailOf, the plain part: the law's function answers true at every net and every number. -/
import Derived.Test.YtbkdpnfjcnkoeaaBtof
import Derived.Test.YtbkdpnfjcnkoeaaBlaw
import Derived.Test.YtbkdpnfjcnkoeaaBints
import Derived.Test.YtbkdpnfjcnkoeaaBmkn
import Derived.Test.YtbkdpnfjcnkoeaaBmki
import Derived.Test.YtbkdpnfjcnkoeaaF31
namespace Go.Proofs.Ytbkdpnfjcnkoeaa.P
set_option linter.unusedSimpArgs false
set_option linter.unusedVariables false
open Go.RowKit Go.Proofs.YtbkdpnfjcnkoeaaW.PrintWords Go.Proofs.Ytbkdpnfjcnkoeaa.G

theorem FnExactTrailOf_pure (n : Int) (l : List S76) (a : Int) (hl : l.length ≤ 9223372036854775807) (_h0 : -9223372036854775808 ≤ a) (_h1 : a ≤ 9223372036854775807) : ∃ k, laws_FnExactTrailOf.f k n l a = some true := by
  refine Ev.rounds ?_
  unfold laws_FnExactTrailOf.f
  simp only [szNet_some n l 1048576 (by omega) (by omega) hl, Option.bind_some]
  by_cases d : 1048576 - (l.length : Int) < 0
  · simp only [if_pos d]; exact Ev.val rfl
  simp only [if_neg d]
  have hL : (l.length : Int) ≤ 1048576 := by omega
  have hLb : (l.length : Int) < big := by unfold big; omega
  obtain ⟨row, b, s1, s2, hrl, _⟩ := tof_both n a l hLb
  have hrb : (row.length : Int) < big := by unfold big; omega
  have hr20 : (row.length : Int) ≤ 1048576 := by omega
  obtain ⟨ml, hml⟩ := markNet_ev n l hL
  refine Ev.bind (toNet_ev n l hL) ?_
  refine Ev.bind s1 ?_
  refine Ev.bind (toNet_ev n l hL) ?_
  refine Ev.bind s2 ?_
  refine Ev.bind (eqIntS_refl row hrb) ?_
  simp only [if_true]
  have bb : (b != b) = false := by simp
  refine Ev.step (fun k => by simp only [laws_FnExactTrailOf.j0, bb, Bool.false_eq_true, if_false] <;> exact rfl) ?_
  refine Ev.bind (toNet_ev n l hL) ?_
  refine Ev.bind (eqNet_refl n l hLb) ?_
  simp only [if_true]
  refine Ev.bind hml ?_
  have m0 : ¬ 1 + 2 * (l.length : Int) < 0 := by omega
  simp only [if_neg m0]
  refine Ev.bind (eqIntS_refl row hrb) ?_
  simp only [if_true]
  refine Ev.step (fun k => by simp only [laws_FnExactTrailOf.j1, bb, Bool.false_eq_true, if_false] <;> exact rfl) ?_
  refine Ev.bind (markIntS_ev row hr20) ?_
  refine Ev.bind (heldIntS_ev row hr20) ?_
  have q0 : ¬ 1 + (row.length : Int) < 0 := by omega
  simp only [if_neg q0, if_true]
  refine Ev.bind (toNet_ev n l hL) ?_
  refine Ev.bind s2 ?_
  refine Ev.bind (eqIntS_refl row hrb) ?_
  simp only [if_true]
  refine Ev.step (fun k => by simp only [laws_FnExactTrailOf.j2, bb, Bool.false_eq_true, if_false] <;> exact rfl) ?_
  refine Ev.bind (heldIntS_ev row hr20) ?_
  simp only [if_neg q0, if_true]
  exact Ev.val rfl
end Go.Proofs.Ytbkdpnfjcnkoeaa.P
