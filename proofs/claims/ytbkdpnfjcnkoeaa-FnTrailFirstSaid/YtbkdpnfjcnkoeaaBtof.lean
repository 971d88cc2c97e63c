/- The first way over all ties: what the program tells. -/
import Derived.Test.YtbkdpnfjcnkoeaaBtofs
import Derived.Test.YtbkdpnfjcnkoeaaBtcan
import Derived.Test.YtbkdpnfjcnkoeaaF22
namespace Go.Proofs.Ytbkdpnfjcnkoeaa.P
set_option linter.unusedSimpArgs false
set_option linter.unusedVariables false
open Go.RowKit Go.Proofs.YtbkdpnfjcnkoeaaW.PrintWords Go.Proofs.Ytbkdpnfjcnkoeaa.G
theorem tofImpl_l1 (n a i : Int) (E X : List S63) (hX : ok n X) (hi : First n X a i) (out : List Int) (ho : out.length ≤ 1000) (r : List Int × Bool) (hr : Ev (fun k => impl_TrailOf.l0 k (out ++ [i]) n E n (cut X (tieOf a i))) r) : ∀ (d : Nat) (j : Int),
    0 ≤ j → j + d = i → Ev (fun k => impl_TrailOf.l1 k out a n j n E n X) r := by
  have hXl := ok_len hX
  have hir := (tieOf_ends (hX.2.2.1 _ hi.goes.1)).2.1
  have h8 := hX.2.1
  intro d
  induction d with
  | zero =>
    intro j h0 hj
    have hj' : j = i := by omega
    subst hj'
    have c : j < n := hir.2
    have hol : out.length < 17592186044416 := by omega
    refine Ev.step (fun k => by simp only [impl_TrailOf.l1, if_pos c, hol, tie_eq, Option.bind_some, if_true] <;> exact rfl) ?_
    refine Ev.bind (has_ev n a j X (by unfold big; omega)) ?_
    simp only [hi.goes.1, decide_true, if_true]
    refine Ev.bind (lessOne_ev n X (tieOf a j) (by omega)) ?_
    obtain ⟨b, b1, b2⟩ := trail_ev n j (cut X (tieOf a j)) (ok_cut _ hX) hir
    refine Ev.bind b1 ?_
    have : b = true := b2.2 ⟨hi.goes.2.2.2.1, hi.goes.2.2.2.2⟩
    subst this
    simp only [if_true]
    exact hr
  | succ d ih =>
    intro j h0 hj
    have c : j < n := by omega
    have w : wrap64 (j + 1) = j + 1 := w64 (by omega) (by omega)
    have hol : out.length < 17592186044416 := by omega
    have e := ih (j + 1) (by omega) (by omega)
    refine Ev.step (fun k => by simp only [impl_TrailOf.l1, if_pos c, hol, tie_eq, Option.bind_some, if_true, w] <;> exact rfl) ?_
    refine Ev.bind (has_ev n a j X (by unfold big; omega)) ?_
    by_cases ht : tieOf a j ∈ X
    · simp only [ht, decide_true, if_true]
      refine Ev.bind (lessOne_ev n X (tieOf a j) (by omega)) ?_
      obtain ⟨b, b1, b2⟩ := trail_ev n j (cut X (tieOf a j)) (ok_cut _ hX) ⟨h0, c⟩
      refine Ev.bind b1 ?_
      cases b with
      | true =>
        have hg : goesTo n X a j := ⟨ht, ok_cut _ hX, ⟨h0, c⟩, (b2.1 rfl).1, (b2.1 rfl).2⟩
        have := hi.least j hg
        omega
      | false =>
        simp only [Bool.false_eq_true, if_false]
        exact e
    · simp only [ht, decide_false, Bool.false_eq_true, if_false]
      exact e
theorem tofImpl_l0 (n : Int) (E : List S63) {X : List Tie} {a : Int} {row : List Int} (h : Tr n X a row) : ok n X → ∀ (out : List Int), out.length + row.length ≤ 999 →
    Ev (fun k => impl_TrailOf.l0 k (out ++ [a]) n E n X) (out ++ [a] ++ row, true) := by
  induction h with
  | nil a =>
    intro hX out ho
    refine Ev.step (fun k => by simp [impl_TrailOf.l0] <;> exact rfl) ?_
    exact Ev.val (by simp)
  | @cons X a i r hi hr ih =>
    intro hX out ho
    simp only [List.length_cons] at ho
    have hir := (tieOf_ends (hX.2.2.1 _ hi.goes.1)).2.1
    have hpos : (X.length : Int) > 0 := by
      have := List.length_pos_of_mem hi.goes.1
      omega
    have e := ih (ok_cut _ hX) (out ++ [a]) (by simp; omega)
    have w : wrap64 (((out ++ [a]).length : Int) - 1) = (out.length : Int) := by
      rw [List.length_append, List.length_singleton, w64 (by omega) (by omega)]; omega
    have g1 : (0 : Int) ≤ (out.length : Int) := by omega
    have g2 : (out.length : Int) < ((out ++ [a]).length : Int) := by rw [List.length_append, List.length_singleton]; omega
    have g3 : rd (out ++ [a]) (out.length : Int) = a := rd_mid out a []
    refine Ev.step (fun k => by simp only [impl_TrailOf.l0, if_pos hpos, w, g1, g2, g3, if_true] <;> exact rfl) ?_
    refine Ev.eq (tofImpl_l1 n a i E X hX hi (out ++ [a]) (by simp; omega) _ e i.toNat 0 (Int.le_refl 0) (by omega)) ?_
    simp
theorem tofImpl_yes (n a : Int) (E : List S63) (row : List Int) (h : trailCan n E a) (hr : Tr n E a row) : Ev (fun k => impl_TrailOf.f k n E a) (a :: row, true) := by
  have hEl := ok_len h.1
  have hl := (tr_cuts hr (asc_nodup h.1.2.2.2)).2
  obtain ⟨b, b1, b2⟩ := tcanImpl n a E (by unfold big; omega)
  have : b = true := b2.2 h
  subst this
  unfold impl_TrailOf.f
  refine Ev.bind b1 ?_
  simp only [if_true]
  exact tofImpl_l0 n E hr h.1 [] (by simp; omega)
theorem tofImpl_no (n a : Int) (E : List S63) (hE : (E.length : Int) < big) (h : ¬ trailCan n E a) : Ev (fun k => impl_TrailOf.f k n E a) ([], false) := by
  obtain ⟨b, b1, b2⟩ := tcanImpl n a E hE
  have : b = false := by
    cases b with
    | false => rfl
    | true => exact absurd (b2.1 rfl) h
  subst this
  unfold impl_TrailOf.f
  refine Ev.bind b1 ?_
  simp only [Bool.false_eq_true, if_false]
  exact Ev.val rfl
/-- what both tell -/
theorem tof_both (n a : Int) (E : List S63) (hE : (E.length : Int) < big) : ∃ (row : List Int) (b : Bool), Ev (fun k => spec_TrailOf.f k n E a) (row, b) ∧ Ev (fun k => impl_TrailOf.f k n E a) (row, b) ∧ row.length ≤ 100 ∧
    (b = true → trailCan n E a ∧ ∃ r, row = a :: r ∧ Tr n E a r) ∧ (b = false → ¬ trailCan n E a ∧ row = []) := by
  by_cases h : trailCan n E a
  · obtain ⟨r, hr⟩ := tr_some (n := n) E.length (Nat.le_refl _) h
    have hEl := ok_len h.1
    have hl := (tr_cuts hr (asc_nodup h.1.2.2.2)).2
    exact ⟨a :: r, true, tofSpec_yes n a E r h hr, tofImpl_yes n a E r h hr, by simp; omega, fun _ => ⟨h, r, rfl, hr⟩, fun e => by simp at e⟩
  · exact ⟨[], false, tofSpec_no n a E hE h, tofImpl_no n a E hE h, by simp, fun e => by simp at e, fun _ => ⟨h, rfl⟩⟩
end Go.Proofs.Ytbkdpnfjcnkoeaa.P
