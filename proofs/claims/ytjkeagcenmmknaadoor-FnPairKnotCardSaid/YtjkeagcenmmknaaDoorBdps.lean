/- Draws of a net alone. -/
import Derived.Test.YtjkeagcenmmknaaDoorBdnet
import Derived.Test.YtjkeagcenmmknaaDoorF30
namespace Go.Proofs.YtjkeagcenmmknaaDoor.P
open Go.RowKit Go.Proofs.YtjkeagcenmmknaaDoorW.PrintWords Go.Proofs.YtjkeagcenmmknaaDoor.G
theorem drawPairSize_ev (l : List Int) (h : octs l) : ∃ n E, Ev (fun k => spec_DrawPairSize.f k l) (n, E) ∧ E.length ≤ 50 := by
  obtain ⟨s, o1, o2, o3⟩ := open_eq l h
  obtain ⟨⟨n, E, q⟩, r1, r2⟩ := any_ev s o2 o3 0 (by omega) (by omega)
  simp only [Drawn] at r2
  refine ⟨n, E, ?_, by omega⟩
  unfold spec_DrawPairSize.f
  simp only [o1, Option.bind_some]
  exact Ev.bind r1 (Ev.val rfl)
end Go.Proofs.YtjkeagcenmmknaaDoor.P
