/- The draws of what may go over each tie once. -/
import Derived.Test.YtbkdpnfjcnkoeaaBdwalk
import Derived.Test.YtbkdpnfjcnkoeaaBdtr
import Derived.Test.YtbkdpnfjcnkoeaaBtofs
import Derived.Test.YtbkdpnfjcnkoeaaF21
namespace Go.Proofs.Ytbkdpnfjcnkoeaa.P
set_option linter.unusedSimpArgs false
set_option linter.unusedVariables false
open Go.RowKit Go.Proofs.YtbkdpnfjcnkoeaaW.PrintWords Go.Proofs.Ytbkdpnfjcnkoeaa.G
theorem drawTrailOk_ev (l : List Int) (h : octs l) : ∃ n E row, Ev (fun k => spec_DrawTrailOk.f k l) (n, E, row) ∧ E.length ≤ 50 ∧ row.length ≤ 200 := by
  obtain ⟨s, o1, o2, o3⟩ := open_eq l h
  obtain ⟨n, E, a, q, r1, r2⟩ := dtrail_ev s o2 o3 0 (by omega) (by omega)
  simp only [Drawn] at r2
  obtain ⟨row, t, s1, hrl, ht⟩ := tofSpec_some n a E (by unfold big; omega)
  have no : ∀ q, 0 ≤ q → q ≤ 50000 → ∃ out, Ev (fun k => spec_DrawTrailOk.j0 k row true s q n E) (n, E, out) ∧ out.length ≤ 200 := by
    intro q h0 h1
    obtain ⟨out, q', e, ho⟩ := dwalk_ev s o2 o3 q n E (by omega) h0 (by omega) (by omega) (by omega)
    exact ⟨out, Ev.step (fun k => by simp only [spec_DrawTrailOk.j0, if_true] <;> exact rfl) (Ev.bind e (Ev.val rfl)), by omega⟩
  unfold spec_DrawTrailOk.f
  simp only [o1, Option.bind_some]
  cases t with
  | false =>
    obtain ⟨out, e, ho⟩ := no q (by omega) (by omega)
    refine ⟨n, E, out, Ev.bind r1 (Ev.bind s1 ?_), by omega, ho⟩
    simp only [Bool.false_eq_true, if_false]
    exact e
  | true =>
    have hr := ht rfl
    obtain ⟨v, v1, v2, v3⟩ := pick_ev s o2 o3 q 8 (by omega) (by omega)
    by_cases c : v = 0
    · obtain ⟨out, e, ho⟩ := no (q + 1) (by omega) (by omega)
      refine ⟨n, E, out, Ev.bind r1 (Ev.bind s1 ?_), by omega, ho⟩
      simp only [if_true]
      refine Ev.bind v1 ?_
      simp only [c, beq_self_eq_true]
      exact e
    · have c' : (v == 0) = false := beq_eq_false_iff_ne.2 c
      have fin : ∃ out, Ev (fun k => spec_DrawTrailOk.j0 k row false s (q + 1) n E) (n, E, out) ∧ out.length ≤ 200 := by
        obtain ⟨u, u1, u2, u3⟩ := pick_ev s o2 o3 (q + 1) 8 (by omega) (by omega)
        by_cases d0 : u = 0
        · have g : 1 ≤ (row.length : Int) := by omega
          refine ⟨row.drop 1, Ev.step (fun k => by simp only [spec_DrawTrailOk.j0, Bool.false_eq_true, if_false] <;> exact rfl) (Ev.bind u1 ?_), by simp; omega⟩
          simp only [if_pos d0, if_pos g]
          exact Ev.val rfl
        by_cases d1 : u = 1
        · obtain ⟨x, x1, x2, x3⟩ := pick_ev s o2 o3 (q + 1 + 1) (row.length : Int) (by omega) (by omega)
          obtain ⟨y, y1, y2, y3⟩ := pick_ev s o2 o3 (q + 1 + 1 + 1) 9 (by omega) (by omega)
          have g : x < (row.length : Int) := by omega
          refine ⟨row.set x.toNat y, Ev.step (fun k => by simp only [spec_DrawTrailOk.j0, Bool.false_eq_true, if_false] <;> exact rfl) (Ev.bind u1 ?_), by simp; omega⟩
          simp only [if_neg d0, if_pos d1]
          refine Ev.bind x1 (Ev.bind y1 ?_)
          simp only [if_pos x2, if_pos g]
          exact Ev.val rfl
        · refine ⟨row, Ev.step (fun k => by simp only [spec_DrawTrailOk.j0, Bool.false_eq_true, if_false] <;> exact rfl) (Ev.bind u1 ?_), by omega⟩
          simp only [if_neg d0, if_neg d1]
          exact Ev.val rfl
      obtain ⟨out, e, ho⟩ := fin
      refine ⟨n, E, out, Ev.bind r1 (Ev.bind s1 ?_), by omega, ho⟩
      simp only [if_true]
      refine Ev.bind v1 ?_
      simp only [c']
      exact e
end Go.Proofs.Ytbkdpnfjcnkoeaa.P
