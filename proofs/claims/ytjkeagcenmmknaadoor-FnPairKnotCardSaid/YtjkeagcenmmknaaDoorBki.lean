/- The program on a net that is valid: its knots, whether it has a tie, ties taken out. -/
import Derived.Test.YtjkeagcenmmknaaDoorBhi
import Derived.Test.YtjkeagcenmmknaaDoorGt
import Derived.Test.YtjkeagcenmmknaaDoorF15
import Derived.Test.YtjkeagcenmmknaaDoorF16
import Derived.Test.YtjkeagcenmmknaaDoorF20
namespace Go.Proofs.YtjkeagcenmmknaaDoor.P
set_option linter.unusedSimpArgs false
set_option linter.unusedVariables false
open Go.RowKit Go.Proofs.YtjkeagcenmmknaaDoorW.PrintWords Go.Proofs.YtjkeagcenmmknaaDoor.G
theorem knot_eq (n a : Int) (E : List S51) : impl_Net_knot.f n E a = some (decide (0 ≤ a ∧ a < n)) := by
  unfold impl_Net_knot.f
  by_cases h : 0 ≤ a <;> simp [h]
theorem tie_eq (a b : Int) : impl_tie.f a b = some ((tieOf a b).f0, (tieOf a b).f1) := by
  unfold impl_tie.f tieOf mn mx
  rcases Int.lt_trichotomy a b with h | h | h
  · simp [h]; omega
  · subst h; simp
  · have : ¬ a < b := by omega
    simp [this, h]
theorem has_ev (n a b : Int) (E : List S51) (hE : (E.length : Int) < big) : Ev (fun k => impl_Net_has.f k n E a b) (decide (tieOf a b ∈ E)) := by
  unfold impl_Net_has.f
  simp only [tie_eq, Option.bind_some]
  exact Ev.bind (containsTie_ev E _ _ hE) (Ev.val rfl)
/-- without some -/
def less (X gone : List Tie) : List Tie := X.filter fun s => !decide (s ∈ gone)
theorem less_one (X : List Tie) (t : Tie) : less X [t] = cut X t := by
  unfold less cut
  refine List.filter_congr (fun s _ => ?_)
  simp
theorem less_l0 (n m : Int) (gone : List S51) (hg : (gone.length : Int) < big) : ∀ (suf p q : List S51), ((p ++ suf).length : Int) ≤ 1048576 → q.length ≤ p.length →
    Ev (fun k => impl_Net_less.l0 k gone (p ++ suf) ((p ++ suf).length : Int) (p.length : Int) m q) (m, q ++ less suf gone) := by
  intro suf
  induction suf with
  | nil =>
    intro p q hb hq
    refine Ev.step (fun k => by simp only [impl_Net_less.l0, nlt_end, if_false] <;> exact rfl) ?_
    exact Ev.val (by simp [less])
  | cons t suf ih =>
    intro p q hb hq
    have hb' : ((p ++ t :: suf).length : Int) < big := by unfold big; omega
    have hp : (p.length : Int) < big := len_mid hb'
    have hq8 : q.length < 8796093022208 := by rw [List.length_append] at hb; omega
    refine Ev.step (fun k => by simp only [impl_Net_less.l0, lt_mid, nn, if_true, rdC_mid, w_succ (t := t) hp, hq8] <;> exact rfl) ?_
    refine Ev.bind (containsTie_ev gone _ _ hg) ?_
    by_cases c : t ∈ gone
    · have c' : (⟨t.f0, t.f1⟩ : Tie) ∈ gone := c
      simp only [c', decide_true, if_true]
      rw [app_one p t suf]
      refine Ev.eq (ih (p ++ [t]) q (by rw [← app_one]; exact hb) (by simp; omega)) ?_
      simp [less, c]
    · have c' : ¬ (⟨t.f0, t.f1⟩ : Tie) ∈ gone := c
      simp only [c', decide_false, Bool.false_eq_true, if_false]
      rw [app_one p t suf]
      refine Ev.eq (ih (p ++ [t]) (q ++ [t]) (by rw [← app_one]; exact hb) (by simp; omega)) ?_
      simp [less, c]
theorem less_ev (n : Int) (E gone : List S51) (hE : (E.length : Int) ≤ 1048576) (hg : (gone.length : Int) < big) : Ev (fun k => impl_Net_less.f k n E gone) (n, less E gone) := by
  unfold impl_Net_less.f
  exact less_l0 n n gone hg E [] [] hE (Nat.le_refl _)
theorem lessOne_ev (n : Int) (E : List S51) (t : Tie) (hE : (E.length : Int) ≤ 1048576) : Ev (fun k => impl_Net_less.f k n E [t]) (n, cut E t) := by
  rw [← less_one]
  exact less_ev n E [t] hE (by unfold big; simp)
end Go.Proofs.YtjkeagcenmmknaaDoor.P
