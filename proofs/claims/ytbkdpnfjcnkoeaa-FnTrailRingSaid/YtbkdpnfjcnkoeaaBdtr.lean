/- The draws of a net and a knot for ways over all ties. -/
import Derived.Test.YtbkdpnfjcnkoeaaBdnet
import Derived.Test.YtbkdpnfjcnkoeaaBdknot
import Derived.Test.YtbkdpnfjcnkoeaaF15
namespace Go.Proofs.Ytbkdpnfjcnkoeaa.P
set_option linter.unusedSimpArgs false
set_option linter.unusedVariables false
open Go.RowKit Go.Proofs.YtbkdpnfjcnkoeaaW.PrintWords Go.Proofs.Ytbkdpnfjcnkoeaa.G
theorem dtrail_l0 (s : List Int) (hs : octs s) (hl : s.length ≤ 2000) (a : Int) : ∀ (d : Nat) (b p n : Int) (E : List S63), d ≤ 20 → 0 ≤ p → p + d ≤ 80000 → 0 ≤ n → n ≤ 8 → E.length + d ≤ 1000 →
    ∃ m F q, Ev (fun k => spec_l71Trail.l0 k a b (d : Int) s p n E) (m, F, a, q) ∧ Drawn 0 8 (E.length + d) d p (m, F, q) := by
  intro d
  induction d with
  | zero =>
    intro b p n E hd h0 h1 n0 n1 hE
    have c : ¬ (0 : Int) > 0 := by omega
    refine ⟨n, E, p, ?_, by simp [Drawn]; omega⟩
    exact Ev.step (fun k => by simp only [spec_l71Trail.l0, Int.natCast_zero, if_neg c] <;> exact rfl) (Ev.val rfl)
  | succ d ih =>
    intro b p n E hd h0 h1 n0 n1 hE
    have c : ((d + 1 : Nat) : Int) > 0 := by omega
    have w : wrap64 (((d + 1 : Nat) : Int) - 1) = (d : Int) := by rw [w64 (by omega) (by omega)]; omega
    obtain ⟨v, v1, _⟩ := pick_ev s hs hl p n h0 (by omega)
    obtain ⟨m', F, t, a1, a2, a3⟩ := add_ev n b v E (by omega)
    have step : ∀ r, Ev (fun k => if t = true then spec_l71Trail.l0 k a v (d : Int) s (p + 1) m' F else spec_l71Trail.l0 k a b (d : Int) s (p + 1) n E) r → Ev (fun k => spec_l71Trail.l0 k a b ((d + 1 : Nat) : Int) s p n E) r := by
      intro r hr
      refine Ev.step (fun k => by simp only [spec_l71Trail.l0, if_pos c, w] <;> exact rfl) ?_
      exact Ev.bind v1 (Ev.bind a1 hr)
    cases t with
    | true =>
      obtain ⟨m, G, q, r1, r2⟩ := ih v (p + 1) m' F (by omega) (by omega) (by omega) (by omega) (by omega) (by omega)
      exact ⟨m, G, q, step _ (by simp only [if_true]; exact r1), by unfold Drawn at *; omega⟩
    | false =>
      obtain ⟨m, G, q, r1, r2⟩ := ih b (p + 1) n E (by omega) (by omega) (by omega) (by omega) (by omega) (by omega)
      exact ⟨m, G, q, step _ (by simp only [Bool.false_eq_true, if_false]; exact r1), by unfold Drawn at *; omega⟩
theorem dtrail_ev (s : List Int) (hs : octs s) (hl : s.length ≤ 2000) (p : Int) (h0 : 0 ≤ p) (h1 : p ≤ 50000) :
    ∃ n E a q, Ev (fun k => spec_l71Trail.f k s p) (n, E, a, q) ∧ Drawn (-1) 9 50 100 p (n, E, q) := by
  obtain ⟨v, v1, v2, v3⟩ := pick_ev s hs hl p 4 h0 (by omega)
  unfold spec_l71Trail.f
  by_cases c : v = 0
  · obtain ⟨⟨n, E, q⟩, r1, r2⟩ := any_ev s hs hl (p + 1) (by omega) (by omega)
    simp only [Drawn] at r2
    obtain ⟨a, q', k1, k2⟩ := knot_ev s hs hl q n E (by omega) (by omega) (by omega) (by omega)
    refine ⟨n, E, a, q', Ev.bind v1 ?_, by simp [Drawn]; omega⟩
    simp only [if_pos c]
    exact Ev.bind r1 (Ev.bind k1 (Ev.val rfl))
  · obtain ⟨u, u1, u2, u3⟩ := pick_ev s hs hl (p + 1) 7 (by omega) (by omega)
    have w : wrap64 (2 + u) = 2 + u := w64 (by omega) (by omega)
    obtain ⟨a, a1, a2, a3⟩ := pick_ev s hs hl (p + 1 + 1) (2 + u) (by omega) (by omega)
    obtain ⟨d, d1, d2, d3⟩ := pick_ev s hs hl (p + 1 + 1 + 1) 13 (by omega) (by omega)
    obtain ⟨m, F, q, r1, r2⟩ := dtrail_l0 s hs hl a d.toNat a (p + 1 + 1 + 1 + 1) (2 + u) [] (by omega) (by omega) (by omega) (by omega) (by omega) (by simp; omega)
    rw [Int.toNat_of_nonneg d2] at r1
    simp only [Drawn, List.length_nil] at r2
    refine ⟨m, F, a, q, Ev.bind v1 ?_, by simp [Drawn]; omega⟩
    simp only [if_neg c]
    refine Ev.bind u1 ?_
    simp only [w]
    exact Ev.bind a1 (Ev.bind d1 r1)
end Go.Proofs.Ytbkdpnfjcnkoeaa.P
