/- The reference's cut of a tie. -/
import Derived.Test.YtbkdpnfjcnkoeaaBks
import Derived.Test.YtbkdpnfjcnkoeaaF9
namespace Go.Proofs.Ytbkdpnfjcnkoeaa.P
set_option linter.unusedSimpArgs false
set_option linter.unusedVariables false
open Go.RowKit Go.Proofs.YtbkdpnfjcnkoeaaW.PrintWords Go.Proofs.Ytbkdpnfjcnkoeaa.G
theorem tie_bne (s t : Tie) : (!(s.f0 == t.f0) || (!(s.f1 == t.f1))) = !decide (s = t) := by
  obtain ⟨a, b⟩ := s
  obtain ⟨c, d⟩ := t
  simp only [Tie.mk.injEq]
  by_cases h : a = c <;> by_cases k : b = d <;> simp [h, k]
theorem specCut_l0 (n a b m : Int) : ∀ (suf p q : List S63), ((p ++ suf).length : Int) ≤ 1048576 → q.length ≤ p.length →
    Ev (fun k => spec_NetCut.l0 k a b (p.length : Int) n (p ++ suf) m q) (m, q ++ cut suf (tieOf a b), true) := by
  intro suf
  induction suf with
  | nil =>
    intro p q hb hq
    refine Ev.step (fun k => by simp only [spec_NetCut.l0, nlt_end, if_false] <;> exact rfl) ?_
    exact Ev.val (by simp [cut])
  | cons t suf ih =>
    intro p q hb hq
    have hb' : ((p ++ t :: suf).length : Int) < big := by unfold big; omega
    have hp : (p.length : Int) < big := len_mid hb'
    have hq8 : q.length < 8796093022208 := by rw [List.length_append] at hb; omega
    refine Ev.step (fun k => by simp only [spec_NetCut.l0, lt_mid, nn, if_true, rdH_mid, w_succ (t := t) hp, l1Tie_eq, Option.bind_some, tie_bne, hq8] <;> exact rfl) ?_
    by_cases c : t = tieOf a b
    · have c' : (!decide (t = tieOf a b)) = false := by rw [decide_eq_true c]; rfl
      simp only [c', Bool.false_eq_true, if_false]
      rw [app_one p t suf]
      refine Ev.eq (ih (p ++ [t]) q (by rw [← app_one]; exact hb) (by simp; omega)) ?_
      simp [cut, c]
    · have c' : (!decide (t = tieOf a b)) = true := by rw [decide_eq_false c]; rfl
      simp only [c', if_true]
      rw [app_one p t suf]
      refine Ev.eq (ih (p ++ [t]) (q ++ [t]) (by rw [← app_one]; exact hb) (by simp; omega)) ?_
      simp [cut, c]
theorem specCut_ev (n a b : Int) (E : List S63) (hE : (E.length : Int) ≤ 1048576) :
    Ev (fun k => spec_NetCut.f k n E a b) (if ok n E ∧ tieOf a b ∈ E then (n, cut E (tieOf a b), true) else (0, [], false)) := by
  unfold spec_NetCut.f
  refine Ev.bind (specHas_ev n a b E (by unfold big; omega)) ?_
  by_cases c : ok n E ∧ tieOf a b ∈ E
  · simp only [if_pos c]
    simp only [c, and_self, decide_true, if_true]
    exact specCut_l0 n a b n E [] [] hE (Nat.le_refl _)
  · simp only [if_neg c]
    simp only [c, decide_false, Bool.false_eq_true, if_false]
    exact Ev.val rfl
end Go.Proofs.Ytbkdpnfjcnkoeaa.P
