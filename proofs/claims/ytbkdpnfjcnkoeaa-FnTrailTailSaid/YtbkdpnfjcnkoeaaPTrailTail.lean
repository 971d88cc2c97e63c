/- FnTrailTail, the plain part. -/
import Derived.Test.YtbkdpnfjcnkoeaaBtok
import Derived.Test.YtbkdpnfjcnkoeaaBdtk
import Derived.Test.YtbkdpnfjcnkoeaaBcut
import Derived.Test.YtbkdpnfjcnkoeaaGr
import Derived.Test.YtbkdpnfjcnkoeaaF36
namespace Go.Proofs.Ytbkdpnfjcnkoeaa.P
set_option linter.unusedSimpArgs false
set_option linter.unusedVariables false
open Go.RowKit Go.Proofs.YtbkdpnfjcnkoeaaW.PrintWords Go.Proofs.Ytbkdpnfjcnkoeaa.G
theorem FnTrailTail_pure (l : List Int) (_hl : l.length ≤ 9223372036854775807) (h : ∀ x ∈ l, 0 ≤ x ∧ x ≤ 255) : ∃ k, laws_FnTrailTail.f k l = some true := by
  refine Ev.rounds ?_
  unfold laws_FnTrailTail.f
  by_cases d : (l.length : Int) > 1048576
  · simp only [if_pos d]; exact Ev.val rfl
  simp only [if_neg d]
  obtain ⟨n, E, row, d1, hE, hr⟩ := drawTrailOk_ev l h
  have s := trailSpec n E row (by omega) (by omega)
  have i := trailImpl n E row (by omega) (by omega)
  have same : Ev (fun k => laws_FnTrailTail.j0 k row (decide (trailOk n E row)) true n E) true := by
    refine Ev.step (fun k => by simp only [laws_FnTrailTail.j0, if_true] <;> exact rfl) ?_
    exact Ev.bind s (Ev.val (by simp))
  refine Ev.bind d1 (Ev.bind i (Ev.bind s ?_))
  simp only [bne_self_eq_false, Bool.false_eq_true, if_false]
  by_cases c : trailOk n E row
  · rw [decide_eq_true c] at same ⊢
    simp only [if_true]
    by_cases c2 : (row.length : Int) < 2
    · rw [decide_eq_true c2]
      exact same
    · rw [decide_eq_false c2]
      match row, c, c2 with
      | [], _, c2 => exact absurd (by simp : (([] : List Int).length : Int) < 2) c2
      | [_], _, c2 => exact absurd (by simp : (([_] : List Int).length : Int) < 2) c2
      | a :: b :: r, c, c2 =>
        obtain ⟨h1, h2⟩ := trailOk_tail c
        have cl : (cut E (tieOf a b)).length ≤ E.length := List.length_filter_le _ _
        have i2 := trailImpl n (cut E (tieOf a b)) (b :: r) (by omega) (by simp at hr ⊢; omega)
        rw [decide_eq_true h2] at i2
        have g0 : (0 : Int) < ((a :: b :: r).length : Int) := by simp only [List.length_cons]; omega
        have g1 : (1 : Int) < ((a :: b :: r).length : Int) := by simp only [List.length_cons]; omega
        have g2 : (1 : Int) ≤ ((a :: b :: r).length : Int) := by omega
        have r0 : rd (a :: b :: r) 0 = a := rfl
        have r1 : rd (a :: b :: r) 1 = b := rfl
        refine Ev.step (fun k => by simp only [laws_FnTrailTail.j0, Bool.false_eq_true, if_false, if_pos g0, if_pos g1, if_pos g2, r0, r1] <;> exact rfl) ?_
        refine Ev.bind (implCut_ev n a b E (by omega)) ?_
        simp only [if_pos (And.intro c.1 h1), if_true]
        refine Ev.bind i2 (Ev.val rfl)
  · rw [decide_eq_false c] at same ⊢
    simp only [Bool.false_eq_true, if_false]
    exact same
end Go.Proofs.Ytbkdpnfjcnkoeaa.P
