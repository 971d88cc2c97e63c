/- The reference on a net that is valid: its knots, whether it has a tie, a copy. -/
import Derived.Test.YtjkeagcenmmknaaDoorBok
import Derived.Test.YtjkeagcenmmknaaDoorGt
import Derived.Test.YtjkeagcenmmknaaDoorF5
import Derived.Test.YtjkeagcenmmknaaDoorF7
namespace Go.Proofs.YtjkeagcenmmknaaDoor.P
set_option linter.unusedSimpArgs false
set_option linter.unusedVariables false
open Go.RowKit Go.Proofs.YtjkeagcenmmknaaDoorW.PrintWords Go.Proofs.YtjkeagcenmmknaaDoor.G
theorem l1Knot_ev (n a : Int) (E : List S51) (hE : (E.length : Int) < big) : Ev (fun k => spec_l1Knot.f k n E a) (decide (ok n E ∧ 0 ≤ a ∧ a < n)) := by
  unfold spec_l1Knot.f
  refine Ev.bind (specOk n E hE) ?_
  by_cases c : ok n E
  · simp only [c, decide_true, if_true, in_eq, Option.bind_some]
    rw [w64 (by have := c.1; omega) (by have := c.2.1; omega)]
    refine Ev.val (congrArg some (decide_eq_decide.2 ?_))
    exact ⟨fun h => ⟨trivial, h.1, by omega⟩, fun h => ⟨h.2.1, by omega⟩⟩
  · simp only [c, decide_false, Bool.false_eq_true, if_false]
    exact Ev.val (congrArg some (decide_eq_false (by simp)).symm)
theorem specHas_ev (n a b : Int) (E : List S51) (hE : (E.length : Int) < big) : Ev (fun k => spec_NetHas.f k n E a b) (decide (ok n E ∧ tieOf a b ∈ E)) := by
  unfold spec_NetHas.f
  refine Ev.bind (specOk n E hE) ?_
  by_cases c : ok n E
  · simp only [c, decide_true, if_true]
    refine Ev.bind (l1Has_ev n a b E hE) ?_
    exact Ev.val (by simp)
  · simp only [c, decide_false, Bool.false_eq_true, if_false]
    exact Ev.val (by simp)
theorem copy_eq (n : Int) (E : List S51) (hE : (E.length : Int) ≤ 1048576) : spec_l1Copy.f n E = some (n, E) := by
  unfold spec_l1Copy.f
  have : ([] : List S51).length + E.length < 8796093022208 := by simp; omega
  simp only [Option.bind_some, this, if_true, List.nil_append]
end Go.Proofs.YtjkeagcenmmknaaDoor.P
