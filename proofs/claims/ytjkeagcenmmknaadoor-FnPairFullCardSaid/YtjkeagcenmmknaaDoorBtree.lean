/- The reference's tree of a net. -/
import Derived.Test.YtjkeagcenmmknaaDoorBreach
import Derived.Test.YtjkeagcenmmknaaDoorGtree
import Derived.Test.YtjkeagcenmmknaaDoorF25
namespace Go.Proofs.YtjkeagcenmmknaaDoor.P
set_option linter.unusedSimpArgs false
set_option linter.unusedVariables false
open Go.RowKit Go.Proofs.YtjkeagcenmmknaaDoorW.PrintWords Go.Proofs.YtjkeagcenmmknaaDoor.G
theorem rdTr_mid (pre : List S51) (t : S51) (suf : List S51) : rd_T51 (pre ++ t :: suf) (pre.length : Int) = t := by
  unfold rd_T51; exact getD_mid pre t suf _
theorem treeSpec_l0 (n : Int) (E : List S51) (hE : ok n E) : ∀ (suf p X : List S51), p ++ suf = E → X.Sublist p →
    Ev (fun k => spec_TreeOf.l0 k X (p.length : Int) n (p ++ suf)) (treeOn X suf) := by
  have hEl := ok_len hE
  intro suf
  induction suf with
  | nil =>
    intro p X he hX
    exact Ev.step (fun k => by simp only [spec_TreeOf.l0, nlt_end, if_false] <;> exact rfl) (Ev.val rfl)
  | cons t suf ih =>
    intro p X he hX
    have hp : (p.length : Int) < big := len_mid (suf := suf) (t := t) (by rw [he]; unfold big; omega)
    have ht := hE.2.2.1 t (by rw [← he]; simp)
    have ht' := ht
    unfold inr at ht'
    have hXE : X.Sublist E := hX.trans (by rw [← he]; exact List.sublist_append_left _ _)
    have hXl : X.length < 8796093022208 := by have := hXE.length_le; omega
    obtain ⟨f, f1, f2, f3⟩ := reach_ev n X t.f0 (ok_sublist hE hXE) (by omega) (by omega)
    have g0 : 0 ≤ t.f1 := by omega
    have g1 : t.f1 < (f.length : Int) := by omega
    have f3' := f3 t.f1 (by omega) (by omega)
    refine Ev.step (fun k => by simp only [spec_TreeOf.l0, lt_mid, nn, if_true, rdTr_mid, w_succ (t := t) hp] <;> exact rfl) ?_
    refine Ev.bind f1 ?_
    simp only [if_pos g0, if_pos g1]
    rw [app_one p t suf]
    by_cases c : Conn X t.f0 t.f1
    · have e : treeOn X (t :: suf) = treeOn X suf := by rw [treeOn, if_pos c]
      have c' : rdOf false f t.f1 = true := f3'.2 c
      rw [e]
      simp only [c', if_true]
      exact ih (p ++ [t]) X (by rw [← he]; simp) (hX.trans (List.sublist_append_left _ _))
    · have e : treeOn X (t :: suf) = treeOn (X ++ [t]) suf := by rw [treeOn, if_neg c]
      have c' : rdOf false f t.f1 = false := by
        cases q : rdOf false f t.f1 with
        | true => exact absurd (f3'.1 q) c
        | false => rfl
      rw [e]
      simp only [c', Bool.false_eq_true, if_false, if_pos hXl]
      exact ih (p ++ [t]) (X ++ [t]) (by rw [← he]; simp) (hX.append (List.Sublist.refl _))
open Classical in
theorem treeSpec (n : Int) (E : List S51) (hE : (E.length : Int) < big) : Ev (fun k => spec_TreeOf.f k n E) (if ok n E then tree E else []) := by
  unfold spec_TreeOf.f
  simp only [Option.bind_some]
  refine Ev.bind (specOk n E hE) ?_
  by_cases c : ok n E
  · simp only [c, decide_true, if_true]
    exact treeSpec_l0 n E c E [] [] rfl (List.Sublist.refl _)
  · simp only [c, decide_false, Bool.false_eq_true, if_false]
    exact Ev.val rfl
end Go.Proofs.YtjkeagcenmmknaaDoor.P
