/- The reference on a net that is valid: its knots, whether it has a tie, a copy, a tie cut. -/
import Derived.Test.YtbkdpnfjcnkoeaaBok
import Derived.Test.YtbkdpnfjcnkoeaaGt
import Derived.Test.YtbkdpnfjcnkoeaaF3
import Derived.Test.YtbkdpnfjcnkoeaaF6
import Derived.Test.YtbkdpnfjcnkoeaaF9
namespace Go.Proofs.Ytbkdpnfjcnkoeaa.P
set_option linter.unusedSimpArgs false
set_option linter.unusedVariables false
open Go.RowKit Go.Proofs.YtbkdpnfjcnkoeaaW.PrintWords Go.Proofs.Ytbkdpnfjcnkoeaa.G
theorem l1Knot_ev (n a : Int) (E : List S63) (hE : (E.length : Int) < big) : Ev (fun k => spec_l1Knot.f k n E a) (decide (ok n E ∧ 0 ≤ a ∧ a < n)) := by
  unfold spec_l1Knot.f
  refine Ev.bind (specOk n E hE) ?_
  by_cases c : ok n E
  · simp only [c, decide_true, if_true, in_eq, Option.bind_some]
    rw [w64 (by have := c.1; omega) (by have := c.2.1; omega)]
    refine Ev.val (congrArg some (decide_eq_decide.2 ?_))
    exact ⟨fun h => ⟨trivial, h.1, by omega⟩, fun h => ⟨h.2.1, by omega⟩⟩
  · simp only [c, decide_false, Bool.false_eq_true, if_false]
    exact Ev.val (congrArg some (decide_eq_false (by simp)).symm)
theorem specHas_ev (n a b : Int) (E : List S63) (hE : (E.length : Int) < big) : Ev (fun k => spec_NetHas.f k n E a b) (decide (ok n E ∧ tieOf a b ∈ E)) := by
  unfold spec_NetHas.f
  refine Ev.bind (specOk n E hE) ?_
  by_cases c : ok n E
  · simp only [c, decide_true, if_true]
    refine Ev.bind (l1Has_ev n a b E hE) ?_
    exact Ev.val (by simp)
  · simp only [c, decide_false, Bool.false_eq_true, if_false]
    exact Ev.val (by simp)
theorem tie_bne (s t : Tie) : (!(s.f0 == t.f0) || (!(s.f1 == t.f1))) = !decide (s = t) := by
  obtain ⟨a, b⟩ := s
  obtain ⟨c, d⟩ := t
  simp only [Tie.mk.injEq]
  by_cases h : a = c <;> by_cases k : b = d <;> simp [h, k]
theorem specCut_l0 (n a b m : Int) : ∀ (suf p q : List S63), ((p ++ suf).length : Int) ≤ 1048576 → q.length ≤ p.length →
    Ev (fun k => spec_NetCut.l0 k a b (p.length : Int) n (p ++ suf) m q) (m, q ++ cut suf (tieOf a b), true) := by
  intro suf
  induction suf with
  | nil =>
    intro p q hb hq
    refine Ev.step (fun k => by simp only [spec_NetCut.l0, nlt_end, if_false] <;> exact rfl) ?_
    exact Ev.val (by simp [cut])
  | cons t suf ih =>
    intro p q hb hq
    have hb' : ((p ++ t :: suf).length : Int) < big := by unfold big; omega
    have hp : (p.length : Int) < big := len_mid hb'
    have hq8 : q.length < 8796093022208 := by rw [List.length_append] at hb; omega
    refine Ev.step (fun k => by simp only [spec_NetCut.l0, lt_mid, nn, if_true, rdH_mid, w_succ (t := t) hp, l1Tie_eq, Option.bind_some, tie_bne, hq8] <;> exact rfl) ?_
    by_cases c : t = tieOf a b
    · have c' : (!decide (t = tieOf a b)) = false := by rw [decide_eq_true c]; rfl
      simp only [c', Bool.false_eq_true, if_false]
      rw [app_one p t suf]
      refine Ev.eq (ih (p ++ [t]) q (by rw [← app_one]; exact hb) (by simp; omega)) ?_
      simp [cut, c]
    · have c' : (!decide (t = tieOf a b)) = true := by rw [decide_eq_false c]; rfl
      simp only [c', if_true]
      rw [app_one p t suf]
      refine Ev.eq (ih (p ++ [t]) (q ++ [t]) (by rw [← app_one]; exact hb) (by simp; omega)) ?_
      simp [cut, c]
theorem specCut_ev (n a b : Int) (E : List S63) (hE : (E.length : Int) ≤ 1048576) :
    Ev (fun k => spec_NetCut.f k n E a b) (if ok n E ∧ tieOf a b ∈ E then (n, cut E (tieOf a b), true) else (0, [], false)) := by
  unfold spec_NetCut.f
  refine Ev.bind (specHas_ev n a b E (by unfold big; omega)) ?_
  by_cases c : ok n E ∧ tieOf a b ∈ E
  · simp only [if_pos c]
    simp only [c, and_self, decide_true, if_true]
    exact specCut_l0 n a b n E [] [] hE (Nat.le_refl _)
  · simp only [if_neg c]
    simp only [c, decide_false, Bool.false_eq_true, if_false]
    exact Ev.val rfl
theorem copy_eq (n : Int) (E : List S63) (hE : (E.length : Int) ≤ 1048576) : spec_l1Copy.f n E = some (n, E) := by
  unfold spec_l1Copy.f
  have : ([] : List S63).length + E.length < 8796093022208 := by simp; omega
  simp only [Option.bind_some, this, if_true, List.nil_append]
end Go.Proofs.Ytbkdpnfjcnkoeaa.P
