/- FnPairKnot, the plain part. -/
import Derived.Test.YtjkeagcenmmknaaDoorBdps
import Derived.Test.YtjkeagcenmmknaaDoorBmost
import Derived.Test.YtjkeagcenmmknaaDoorBwo
import Derived.Test.YtjkeagcenmmknaaDoorF39
namespace Go.Proofs.YtjkeagcenmmknaaDoor.P
set_option linter.unusedSimpArgs false
set_option linter.unusedVariables false
open Go.RowKit Go.Proofs.YtjkeagcenmmknaaDoorW.PrintWords Go.Proofs.YtjkeagcenmmknaaDoor.G
theorem knot_same (n z : Int) (E : List S51) (m : List Int) (hE : (E.length : Int) < big) (hz : z = sizeOf n E) : Ev (fun k => laws_FnPairKnot.j1 k m z true n E) true := by
  refine Ev.step (fun k => by simp only [laws_FnPairKnot.j1, if_true] <;> exact rfl) ?_
  refine Ev.bind (sizeSpec n E hE) ?_
  rw [hz]
  exact Ev.val (by simp)
theorem knot_main (n : Int) (E : List S51) (m : List Int) (h : ok n E) (hn : n ≠ 0) : Ev (fun k => laws_FnPairKnot.j1 k m (most E [] : Int) false n E) true := by
  obtain ⟨a, ha⟩ : ∃ a, (m.length : Int) % n = a := ⟨_, rfl⟩
  have h0 : 0 ≤ a := by rw [← ha]; exact Int.emod_nonneg _ hn
  have h1 : a < n := by rw [← ha]; exact Int.emod_lt_of_pos _ (by have := h.1; omega)
  refine Ev.step (fun k => by simp only [laws_FnPairKnot.j1, Bool.false_eq_true, if_false, if_neg hn, ha] <;> exact rfl) ?_
  refine Ev.bind (netWithout_ev n a E h h0 h1) ?_
  have hw := ok_wo h a
  refine Ev.bind (sizeImpl n (wo E a) (by have := ok_len hw; unfold big; omega)) ?_
  have hs : sizeOf n (wo E a) = (most E [a] : Int) := by unfold sizeOf; rw [if_pos hw, most_wo (ok_ne h)]
  have ⟨t1, t2⟩ := most_take (ok_ne h) a []
  have l1 := ok_len h
  have l2 := most_len E []
  have w : wrap64 ((most E [] : Int) - 1) = (most E [] : Int) - 1 := w64 (by omega) (by omega)
  rw [hs]
  by_cases e : (most E [a] : Int) = (most E [] : Int)
  · simp only [if_pos e]; exact Ev.val rfl
  · simp only [if_neg e, w]
    exact Ev.val (by congr 1; rw [beq_iff_eq]; omega)
theorem FnPairKnot_pure (l m : List Int) (_hl : l.length ≤ 9223372036854775807) (h : ∀ x ∈ l, 0 ≤ x ∧ x ≤ 255) (hm : m.length ≤ 9223372036854775807) (_h2 : ∀ x ∈ m, 0 ≤ x ∧ x ≤ 255) : ∃ k, laws_FnPairKnot.f k l m = some true := by
  refine Ev.rounds ?_
  have yes : Ev (fun k => laws_FnPairKnot.j0 k l m true) true := by
    refine Ev.step (fun k => by simp only [laws_FnPairKnot.j0, if_true] <;> exact rfl) ?_
    exact Ev.val rfl
  unfold laws_FnPairKnot.f
  by_cases d : (l.length : Int) > 1048576
  · simp only [if_pos d]; exact yes
  simp only [if_neg d]
  by_cases d2 : (m.length : Int) > 1048576
  · rw [decide_eq_true d2]; exact yes
  rw [decide_eq_false d2]
  refine Ev.step (fun k => by simp only [laws_FnPairKnot.j0, Bool.false_eq_true, if_false] <;> exact rfl) ?_
  obtain ⟨n, E, d1, hE⟩ := drawPairSize_ev l h
  have hEb : (E.length : Int) < big := by unfold big; omega
  refine Ev.bind d1 (Ev.bind (sizeImpl n E hEb) (Ev.bind (sizeSpec n E hEb) ?_))
  simp only [if_true]
  by_cases c : ok n E
  · have hs : sizeOf n E = (most E [] : Int) := by unfold sizeOf; rw [if_pos c]
    have c0 : ¬ sizeOf n E < 0 := by rw [hs]; omega
    simp only [if_neg c0]
    by_cases z : n = 0
    · have z' : (n == 0) = true := beq_iff_eq.2 z
      rw [z']
      exact knot_same n _ E m hEb rfl
    · have z' : (n == 0) = false := beq_eq_false_iff_ne.2 z
      rw [z', hs]
      exact knot_main n E m c z
  · have hs : sizeOf n E = -1 := by unfold sizeOf; rw [if_neg c]
    have c0 : sizeOf n E < 0 := by rw [hs]; omega
    simp only [if_pos c0]
    exact knot_same n _ E m hEb rfl
end Go.Proofs.YtjkeagcenmmknaaDoor.P
