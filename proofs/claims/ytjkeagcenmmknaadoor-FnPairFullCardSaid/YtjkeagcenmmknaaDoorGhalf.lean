/- Pairs and knots counted. -/
import Derived.Test.YtjkeagcenmmknaaDoorGmost
import Derived.Test.YtjkeagcenmmknaaDoorGc
namespace Go.Proofs.YtjkeagcenmmknaaDoor.G
set_option linter.unusedSimpArgs false
set_option linter.unusedVariables false
open Go.RowKit Go.Proofs.YtjkeagcenmmknaaDoorW.PrintWords
theorem verts_len (L : List Tie) : (verts L).length = 2 * L.length := by
  induction L with
  | nil => rfl
  | cons t r ih => rw [verts_cons]; simp only [List.length_cons]; omega
theorem ok_ne {n : Int} {E : List Tie} (h : ok n E) : ∀ t ∈ E, t.f0 ≠ t.f1 := fun t ht => by have := h.2.2.1 t ht; unfold inr at this; omega
theorem verts_in {n : Int} {E : List Tie} (h : ok n E) {v : Int} (hv : v ∈ verts E) : 0 ≤ v ∧ v < n := by
  obtain ⟨t, ht, o⟩ := mem_verts.1 hv
  have := h.2.2.1 t ht
  unfold inr at this
  omega
theorem verts_mono {E L : List Tie} (h : ∀ t ∈ L, t ∈ E) {v : Int} (hv : v ∈ verts L) : v ∈ verts E := by
  obtain ⟨t, ht, o⟩ := mem_verts.1 hv
  exact mem_verts.2 ⟨t, h t ht, o⟩
/-- knots without a tie -/
def loneL (n : Int) (E : List Tie) : List Int := (knots n).filter fun v => decide (v ∉ verts E)
theorem half {n : Int} {E : List Tie} (h : ok n E) : 2 * most E [] + (loneL n E).length ≤ n.toNat := by
  obtain ⟨L, _, f, e⟩ := most_ex E [] (ok_ne h)
  have nd : (verts L ++ loneL n E).Nodup := by
    rw [List.nodup_append]
    refine ⟨f.2.1, (knots_nodup n).sublist List.filter_sublist, fun a ha b hb e => ?_⟩
    subst e
    have := (List.mem_filter.1 hb).2
    simp only [decide_eq_true_eq] at this
    exact this (verts_mono f.1 ha)
  have le := nodup_len_le nd (m := knots n) (fun x hx => by
    rcases List.mem_append.1 hx with hx | hx
    · have := verts_in h (verts_mono f.1 hx)
      exact mem_knots.2 this
    · exact (List.mem_filter.1 hx).1)
  rw [List.length_append, verts_len, e] at le
  have : (knots n).length = n.toNat := by simp [knots]
  omega
theorem most_pos {n : Int} {E : List Tie} (h : ok n E) : 0 < most E [] ↔ 0 < E.length := by
  constructor
  · intro p
    have := most_len E []
    omega
  · intro p
    cases E with
    | nil => simp at p
    | cons t r =>
      have := most_le (t :: r) [] [t] ⟨by simp, by
        have := ok_ne h t (by simp)
        rw [verts_cons]; simp [verts, this], by simp⟩
      simp at this
      omega
end Go.Proofs.YtjkeagcenmmknaaDoor.G
