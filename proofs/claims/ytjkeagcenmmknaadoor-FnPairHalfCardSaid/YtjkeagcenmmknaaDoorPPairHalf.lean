/- FnPairHalf, the plain part. -/
import Derived.Test.YtjkeagcenmmknaaDoorBdps
import Derived.Test.YtjkeagcenmmknaaDoorBmost
import Derived.Test.YtjkeagcenmmknaaDoorBalone
import Derived.Test.YtjkeagcenmmknaaDoorF38
namespace Go.Proofs.YtjkeagcenmmknaaDoor.P
set_option linter.unusedSimpArgs false
set_option linter.unusedVariables false
open Go.RowKit Go.Proofs.YtjkeagcenmmknaaDoorW.PrintWords Go.Proofs.YtjkeagcenmmknaaDoor.G
theorem half_same (n z : Int) (E : List S51) (hE : (E.length : Int) < big) (hz : z = sizeOf n E) : Ev (fun k => laws_FnPairHalf.j0 k z true n E) true := by
  refine Ev.step (fun k => by simp only [laws_FnPairHalf.j0, if_true] <;> exact rfl) ?_
  refine Ev.bind (sizeSpec n E hE) ?_
  rw [hz]
  exact Ev.val (by simp)
theorem FnPairHalf_pure (l : List Int) (_hl : l.length ≤ 9223372036854775807) (h : ∀ x ∈ l, 0 ≤ x ∧ x ≤ 255) : ∃ k, laws_FnPairHalf.f k l = some true := by
  refine Ev.rounds ?_
  unfold laws_FnPairHalf.f
  by_cases d : (l.length : Int) > 1048576
  · simp only [if_pos d]; exact Ev.val rfl
  simp only [if_neg d]
  obtain ⟨n, E, d1, hE⟩ := drawPairSize_ev l h
  have hEb : (E.length : Int) < big := by unfold big; omega
  refine Ev.bind d1 (Ev.bind (sizeImpl n E hEb) (Ev.bind (sizeSpec n E hEb) ?_))
  simp only [if_true]
  by_cases c : ok n E
  · have hs : sizeOf n E = (most E [] : Int) := by unfold sizeOf; rw [if_pos c]
    have c0 : ¬ sizeOf n E < 0 := by rw [hs]; omega
    rw [decide_eq_false c0]
    have hf := half c
    have hp := most_pos c
    have n0 := c.1
    have n8 := c.2.1
    have m64 := sizeOf_range n E
    have w : wrap64 (2 * sizeOf n E) = 2 * sizeOf n E := w64 (by omega) (by omega)
    have w2 : wrap64 (n - ((loneL n E).length : Int)) = n - ((loneL n E).length : Int) := w64 (by omega) (by omega)
    have a1 : 2 * sizeOf n E ≤ n := by rw [hs]; omega
    have a2 : ((decide (sizeOf n E > 0)) == (decide ((E.length : Int) > 0))) = true := by
      rw [beq_iff_eq]
      exact decide_eq_decide.2 (by rw [hs]; omega)
    have a3 : 2 * sizeOf n E ≤ n - ((loneL n E).length : Int) := by rw [hs]; omega
    refine Ev.step (fun k => by simp only [laws_FnPairHalf.j0, Bool.false_eq_true, if_false, w, if_pos a1, a2, if_true] <;> exact rfl) ?_
    refine Ev.bind (alone_ev n E c) ?_
    simp only [w2]
    exact Ev.val (by rw [decide_eq_true a3])
  · have hs : sizeOf n E = -1 := by unfold sizeOf; rw [if_neg c]
    have c0 : sizeOf n E < 0 := by rw [hs]; omega
    rw [decide_eq_true c0]
    exact half_same n _ E hEb rfl
end Go.Proofs.YtjkeagcenmmknaaDoor.P
