/- FnTrailCan, the plain part. -/
import Derived.Test.YtbkdpnfjcnkoeaaBtof
import Derived.Test.YtbkdpnfjcnkoeaaBdtc
import Derived.Test.YtbkdpnfjcnkoeaaF33
namespace Go.Proofs.Ytbkdpnfjcnkoeaa.P
set_option linter.unusedSimpArgs false
set_option linter.unusedVariables false
open Go.RowKit Go.Proofs.YtbkdpnfjcnkoeaaW.PrintWords Go.Proofs.Ytbkdpnfjcnkoeaa.G
theorem FnTrailCan_pure (l : List Int) (_hl : l.length ≤ 9223372036854775807) (h : ∀ x ∈ l, 0 ≤ x ∧ x ≤ 255) : ∃ k, laws_FnTrailCan.f k l = some true := by
  refine Ev.rounds ?_
  unfold laws_FnTrailCan.f
  by_cases d : (l.length : Int) > 1048576
  · simp only [if_pos d]; exact Ev.val rfl
  simp only [if_neg d]
  obtain ⟨n, E, a, d1, hE⟩ := drawTrailCan_ev l h
  have hEb : (E.length : Int) < big := by unfold big; omega
  obtain ⟨b, b1, b2⟩ := tcanSpec n a E hEb
  obtain ⟨b', c1, c2⟩ := tcanImpl n a E hEb
  have hb : b' = b := by rw [Bool.eq_iff_iff]; rw [b2, c2]
  subst hb
  obtain ⟨row, t, s1, s2, hrl, ht, hf⟩ := tof_both n a E hEb
  have e : b' = t := by
    cases t with
    | true => exact c2.2 (ht rfl).1
    | false =>
      cases b' with
      | false => rfl
      | true => exact absurd (c2.1 rfl) (hf rfl).1
  refine Ev.bind d1 (Ev.bind c1 (Ev.bind s2 (Ev.bind b1 ?_)))
  simp only [beq_self_eq_true, if_true]
  exact Ev.val (by simp [e])
end Go.Proofs.Ytbkdpnfjcnkoeaa.P
