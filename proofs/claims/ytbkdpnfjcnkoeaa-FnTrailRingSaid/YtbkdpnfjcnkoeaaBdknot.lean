/- The draws of a knot. -/
import Derived.Test.YtbkdpnfjcnkoeaaBdraw
import Derived.Test.YtbkdpnfjcnkoeaaF14
namespace Go.Proofs.Ytbkdpnfjcnkoeaa.P
set_option linter.unusedSimpArgs false
set_option linter.unusedVariables false
open Go.RowKit Go.Proofs.YtbkdpnfjcnkoeaaW.PrintWords Go.Proofs.Ytbkdpnfjcnkoeaa.G
/-- a knot, sometimes none -/
theorem knot_ev (s : List Int) (hs : octs s) (hl : s.length ≤ 2000) (p n : Int) (E : List S63) (h0 : 0 ≤ p) (h1 : p ≤ 70000) (n0 : -1 ≤ n) (n1 : n ≤ 9) :
    ∃ a q, Ev (fun k => spec_l71Knot.f k s p n E) (a, q) ∧ -1 ≤ a ∧ a ≤ 9 ∧ p ≤ q ∧ q ≤ p + 2 := by
  have yes : ∀ p, 0 ≤ p → p ≤ 80000 → ∃ a, Ev (fun k => spec_l71Knot.j0 k true s p n E) (a, p + 1) ∧ -1 ≤ a ∧ a ≤ 9 := by
    intro p h0 h1
    obtain ⟨u, u1, u2, u3⟩ := pick_ev s hs hl p 3 h0 (by omega)
    have g : u < ((([(-1), n, 3] : List Int)).length : Int) := by show u < 3; omega
    refine ⟨rd [-1, n, 3] u, Ev.step (fun k => by simp only [spec_l71Knot.j0, if_true, Option.bind_some] <;> exact rfl) (Ev.bind u1 ?_), ?_⟩
    · simp only [if_pos u2, if_pos g]
      exact Ev.val rfl
    · have : u = 0 ∨ u = 1 ∨ u = 2 := by omega
      rcases this with rfl | rfl | rfl
      · show -1 ≤ (-1 : Int) ∧ (-1 : Int) ≤ 9; omega
      · exact ⟨n0, n1⟩
      · show -1 ≤ (3 : Int) ∧ (3 : Int) ≤ 9; omega
  unfold spec_l71Knot.f
  by_cases c : n < 1
  · obtain ⟨a, a1, a2⟩ := yes p h0 (by omega)
    refine ⟨a, p + 1, ?_, a2.1, a2.2, by omega, by omega⟩
    simp only [if_pos c]
    exact a1
  · obtain ⟨v, v1, v2, v3⟩ := pick_ev s hs hl p 24 h0 (by omega)
    simp only [if_neg c]
    by_cases d : v = 0
    · obtain ⟨a, a1, a2⟩ := yes (p + 1) (by omega) (by omega)
      refine ⟨a, p + 1 + 1, Ev.bind v1 ?_, a2.1, a2.2, by omega, by omega⟩
      simp only [d, beq_self_eq_true]
      exact a1
    · obtain ⟨u, u1, u2, u3⟩ := pick_ev s hs hl (p + 1) n (by omega) (by omega)
      have d' : (v == 0) = false := beq_eq_false_iff_ne.2 d
      refine ⟨u, p + 1 + 1, Ev.bind v1 ?_, by omega, by omega, by omega, by omega⟩
      simp only [d']
      exact Ev.step (fun k => by simp only [spec_l71Knot.j0, Bool.false_eq_true, if_false] <;> exact rfl) (Ev.bind u1 (Ev.val rfl))
end Go.Proofs.Ytbkdpnfjcnkoeaa.P
