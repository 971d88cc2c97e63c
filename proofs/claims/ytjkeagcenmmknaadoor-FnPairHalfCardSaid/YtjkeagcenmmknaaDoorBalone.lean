/- How many knots have no tie. -/
import Derived.Test.YtjkeagcenmmknaaDoorBok
import Derived.Test.YtjkeagcenmmknaaDoorGhalf
import Derived.Test.YtjkeagcenmmknaaDoorF38
namespace Go.Proofs.YtjkeagcenmmknaaDoor.P
set_option linter.unusedSimpArgs false
set_option linter.unusedVariables false
open Go.RowKit Go.Proofs.YtjkeagcenmmknaaDoorW.PrintWords Go.Proofs.YtjkeagcenmmknaaDoor.G
theorem alone_l1 (n v x : Int) (E : List S51) (hE : (E.length : Int) < big) (r : Int) : ∀ (suf p : List S51) (b : Bool), p ++ suf = E →
    Ev (fun k => if b = true ∧ v ∉ verts suf then laws_loAlone.l0 k (wrap64 (x + 1)) (wrap64 (v + 1)) n E else laws_loAlone.l0 k x (wrap64 (v + 1)) n E) r → Ev (fun k => laws_loAlone.l1 k x v b (p.length : Int) n E) r := by
  intro suf
  induction suf with
  | nil =>
    intro p b he h
    have c : ¬ (p.length : Int) < (E.length : Int) := by rw [← he]; exact nlt_end p
    refine Ev.step (fun k => by simp only [laws_loAlone.l1, if_neg c] <;> exact rfl) ?_
    cases b
    · simpa [verts] using h
    · simpa [verts] using h
  | cons t suf ih =>
    intro p b he h
    have c : (p.length : Int) < (E.length : Int) := by rw [← he]; exact lt_mid p t suf
    have rt : rd_T51 E (p.length : Int) = t := by rw [← he]; exact rdI_mid p t suf
    have e1 : (p ++ [t]) ++ suf = E := by rw [← he]; simp
    have w : wrap64 ((p.length : Int) + 1) = ((p ++ [t]).length : Int) := w_succ (by omega)
    cases b
    · refine Ev.step (fun k => by simp only [laws_loAlone.l1, if_pos c, Bool.false_eq_true, if_false, w] <;> exact rfl) ?_
      refine ih (p ++ [t]) false e1 ?_
      simpa using h
    · by_cases a : t.f0 = v
      · refine Ev.step (fun k => by simp only [laws_loAlone.l1, if_pos c, if_true, nn, rt, if_pos a, w] <;> exact rfl) ?_
        refine ih (p ++ [t]) false e1 ?_
        simpa [verts_cons, a] using h
      · have a' : ¬ v = t.f0 := fun e => a e.symm
        by_cases d : t.f1 = v
        · have dd : (t.f1 != v) = false := by simp [d]
          refine Ev.step (fun k => by simp only [laws_loAlone.l1, if_pos c, if_true, nn, rt, if_neg a, dd, w] <;> exact rfl) ?_
          refine ih (p ++ [t]) false e1 ?_
          simpa [verts_cons, d] using h
        · have d' : ¬ v = t.f1 := fun e => d e.symm
          have dd : (t.f1 != v) = true := by simp [d]
          refine Ev.step (fun k => by simp only [laws_loAlone.l1, if_pos c, if_true, nn, rt, if_neg a, dd, w] <;> exact rfl) ?_
          refine ih (p ++ [t]) true e1 ?_
          simpa [verts_cons, a', d'] using h
theorem alone_l0 (n : Int) (E : List S51) (hE : (E.length : Int) < big) (h8 : n ≤ 8) : ∀ (d : Nat) (i : Int), 0 ≤ i → i + d = n →
    Ev (fun k => laws_loAlone.l0 k ((loneL i E).length : Int) i n E) ((loneL n E).length : Int) := by
  intro d
  induction d with
  | zero =>
    intro i h0 h
    obtain rfl : i = n := by omega
    refine Ev.step (fun k => by simp only [laws_loAlone.l0, if_neg (Int.lt_irrefl _)] <;> exact rfl) (Ev.val rfl)
  | succ d ih =>
    intro i h0 h
    have c : i < n := by omega
    have li : (loneL i E).length ≤ 8 := by
      have : (loneL i E).length ≤ (knots i).length := List.length_filter_le _ _
      rw [knots_len] at this
      omega
    have wi : wrap64 (i + 1) = i + 1 := w64 (by omega) (by omega)
    refine Ev.step (fun k => by simp only [laws_loAlone.l0, if_pos c] <;> exact rfl) ?_
    refine alone_l1 n i _ E hE _ E [] true rfl ?_
    have next := ih (i + 1) (by omega) (by omega)
    have e : loneL (i + 1) E = loneL i E ++ if i ∉ verts E then [i] else [] := by
      unfold loneL
      rw [knots_succ h0, List.filter_append]
      congr 1
      by_cases q : i ∈ verts E <;> simp [q]
    by_cases q : i ∉ verts E
    · have w : wrap64 (((loneL i E).length : Int) + 1) = ((loneL (i + 1) E).length : Int) := by
        rw [e, if_pos q, List.length_append]
        rw [w64 (by omega) (by omega)]
        simp
      simp only [true_and, if_pos q, w, wi]
      exact next
    · have cc : ¬ (true = true ∧ i ∉ verts E) := fun o => q o.2
      have e2 : loneL (i + 1) E = loneL i E := by rw [e, if_neg q, List.append_nil]
      rw [e2] at next
      simp only [true_and, if_neg q, wi]
      exact next
theorem alone_ev (n : Int) (E : List S51) (h : ok n E) : Ev (fun k => laws_loAlone.f k n E) ((loneL n E).length : Int) := by
  have h0 := h.1
  have := alone_l0 n E (by have := ok_len h; unfold big; omega) h.2.1 n.toNat 0 (by omega) (by omega)
  unfold laws_loAlone.f
  exact this
end Go.Proofs.YtjkeagcenmmknaaDoor.P
