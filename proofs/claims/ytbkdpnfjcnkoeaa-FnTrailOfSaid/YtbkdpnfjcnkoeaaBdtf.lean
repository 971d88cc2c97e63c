import Derived.Test.YtbkdpnfjcnkoeaaBdtr
import Derived.Test.YtbkdpnfjcnkoeaaF37
namespace Go.Proofs.Ytbkdpnfjcnkoeaa.P
open Go.RowKit Go.Proofs.YtbkdpnfjcnkoeaaW.PrintWords Go.Proofs.Ytbkdpnfjcnkoeaa.G
theorem drawTrailOf_ev (l : List Int) (h : octs l) : ∃ n E a, Ev (fun k => spec_DrawTrailOf.f k l) (n, E, a) ∧ E.length ≤ 50 := by
  obtain ⟨s, o1, o2, o3⟩ := open_eq l h
  obtain ⟨n, E, a, q, r1, r2⟩ := dtrail_ev s o2 o3 0 (by omega) (by omega)
  refine ⟨n, E, a, ?_, r2.2.2.1⟩
  unfold spec_DrawTrailOf.f
  simp only [o1, Option.bind_some]
  exact Ev.bind r1 (Ev.val rfl)
end Go.Proofs.Ytbkdpnfjcnkoeaa.P
