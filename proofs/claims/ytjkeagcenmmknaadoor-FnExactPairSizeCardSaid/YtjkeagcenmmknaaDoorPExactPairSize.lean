/- FnExactPairSize, the plain part: the law's function answers true at every net. -/
import Derived.Test.YtjkeagcenmmknaaDoorBmost
import Derived.Test.YtjkeagcenmmknaaDoorBlaw
import Derived.Test.YtjkeagcenmmknaaDoorF33
namespace Go.Proofs.YtjkeagcenmmknaaDoor.P
set_option linter.unusedSimpArgs false
set_option linter.unusedVariables false
open Go.RowKit Go.Proofs.YtjkeagcenmmknaaDoorW.PrintWords Go.Proofs.YtjkeagcenmmknaaDoor.G
theorem FnExactPairSize_pure (n : Int) (l : List S82) (hl : l.length ≤ 9223372036854775807) : ∃ k, laws_FnExactPairSize.f k n l = some true := by
  refine Ev.rounds ?_
  unfold laws_FnExactPairSize.f
  simp only [szNet_some n l 1048576 (by omega) (by omega) hl, Option.bind_some]
  by_cases d : 1048576 - (l.length : Int) < 0
  · simp only [if_pos d]; exact Ev.val rfl
  simp only [if_neg d]
  have hL : (l.length : Int) ≤ 1048576 := by omega
  have hLb : (l.length : Int) < big := by unfold big; omega
  refine Ev.bind (toNet_ev n l hL) ?_
  refine Ev.bind (sizeSpec n l hLb) ?_
  refine Ev.bind (toNet_ev n l hL) ?_
  refine Ev.bind (sizeImpl n l hLb) ?_
  simp only [if_true]
  refine Ev.bind (toNet_ev n l hL) ?_
  refine Ev.bind (eqNet_refl n l hLb) ?_
  simp only [if_true]
  exact Ev.val rfl
end Go.Proofs.YtjkeagcenmmknaaDoor.P
