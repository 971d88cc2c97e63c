/- FnPairLess, the plain part. -/
import Derived.Test.YtjkeagcenmmknaaBdpok
import Derived.Test.YtjkeagcenmmknaaF13
namespace Go.Proofs.Ytjkeagcenmmknaa.P
set_option linter.unusedSimpArgs false
set_option linter.unusedVariables false
open Go.RowKit Go.Proofs.YtjkeagcenmmknaaW.PrintWords Go.Proofs.Ytjkeagcenmmknaa.G
theorem verts_sub {L M : List Tie} (h : L.Sublist M) : (verts L).Sublist (verts M) := by
  induction h with
  | slnil => exact List.Sublist.refl _
  | @cons l m a h ih =>
    have e : verts (a :: m) = [a.f0, a.f1] ++ verts m := rfl
    rw [e]
    exact ih.trans (List.sublist_append_right _ _)
  | @cons_cons l m a h ih =>
    have e : verts (a :: m) = [a.f0, a.f1] ++ verts m := rfl
    have e2 : verts (a :: l) = [a.f0, a.f1] ++ verts l := rfl
    rw [e, e2]
    exact (List.Sublist.refl _).append ih
theorem pairOk_sub {n : Int} {E L M : List Tie} (h : pairOk n E M) (s : L.Sublist M) : pairOk n E L :=
  ⟨h.1, fun t ht => h.2.1 t (s.subset ht), asc_sublist h.2.2.1 s, h.2.2.2.sublist (verts_sub s)⟩
theorem pairOk_more {n : Int} {E L : List Tie} {t : Tie} (ht : t ∈ L) : ¬ pairOk n E (L ++ [t]) := by
  intro h
  have := asc_nodup h.2.2.1
  rw [List.nodup_append] at this
  exact this.2.2 t ht t (by simp) rfl
theorem less_main (n : Int) (E L : List Tie) (m : List Int) (c : pairOk n E L) (hE : E.length ≤ 1000) (hL : L.length ≤ 1000) (z : ¬ (L.length : Int) = 0) : Ev (fun k => laws_FnPairLess.j1 k m L true false n E) true := by
  have hEb : (E.length : Int) < big := by unfold big; omega
  obtain ⟨k, hk⟩ : ∃ k, (m.length : Int) % (L.length : Int) = k := ⟨_, rfl⟩
  have k0 : 0 ≤ k := by rw [← hk]; exact Int.emod_nonneg _ z
  have k1 : k < (L.length : Int) := by rw [← hk]; exact Int.emod_lt_of_pos _ (by omega)
  refine Ev.step (fun q => by simp only [laws_FnPairLess.j1, Bool.false_eq_true, if_false, if_neg z, Option.bind_some, hk] <;> exact rfl) ?_
  have k2 : k ≤ (L.length : Int) := by omega
  have w : wrap64 (k + 1) = k + 1 := w64 (by omega) (by omega)
  have k3 : 0 ≤ k + 1 := by omega
  have k4 : k + 1 ≤ (L.length : Int) := by omega
  have sub : (L.take k.toNat ++ L.drop (k + 1).toNat).Sublist L := by
    have e : L.drop (k + 1).toNat = (L.drop k.toNat).drop 1 := by rw [List.drop_drop]; congr 1; omega
    rw [e]
    have := (List.Sublist.refl (L.take k.toNat)).append (List.drop_sublist 1 (L.drop k.toNat))
    rwa [List.take_append_drop] at this
  have sl := sub.length_le
  have z1 : ([] : List S40).length + (L.take k.toNat).length < 8796093022208 := by
    rw [List.length_append] at sl; simp only [List.length_nil]; omega
  have z2 : (([] : List S40) ++ L.take k.toNat).length + (L.drop (k + 1).toNat).length < 8796093022208 := by
    rw [List.length_append] at sl; rw [List.nil_append]; omega
  have z3 : ([] : List S40).length + L.length < 8796093022208 := by simp; omega
  have p1 := pairImpl n E (([] : List S40) ++ L.take k.toNat ++ L.drop (k + 1).toNat) hEb (by rw [List.nil_append]; omega)
  rw [decide_eq_true (pairOk_sub c (by rw [List.nil_append]; exact sub))] at p1
  have ht : rd_T40 L k ∈ L := by
    unfold rd_T40
    rw [List.getD_eq_getElem?_getD, List.getElem?_eq_getElem (by omega)]
    exact List.getElem_mem _
  have p2 := pairImpl n E (([] : List S40) ++ L ++ [rd_T40 L k]) hEb (by simp; omega)
  rw [decide_eq_false (by rw [List.nil_append]; exact pairOk_more ht)] at p2
  have z4 : (([] : List S40) ++ L).length + ([rd_T40 L k] : List S40).length < 8796093022208 := by simp; omega
  simp only [if_pos k0, if_pos k2, if_pos z1, w, if_pos k3, if_pos k4, if_pos z2]
  refine Ev.bind p1 ?_
  simp only [if_true, if_pos z3, if_pos k1, if_pos z4]
  exact Ev.bind p2 (Ev.val rfl)
theorem FnPairLess_pure (l m : List Int) (_hl : l.length ≤ 9223372036854775807) (h : ∀ x ∈ l, 0 ≤ x ∧ x ≤ 255) (hm : m.length ≤ 9223372036854775807) (_h2 : ∀ x ∈ m, 0 ≤ x ∧ x ≤ 255) : ∃ k, laws_FnPairLess.f k l m = some true := by
  refine Ev.rounds ?_
  have yes : Ev (fun k => laws_FnPairLess.j0 k l m true) true := by
    refine Ev.step (fun k => by simp only [laws_FnPairLess.j0, if_true] <;> exact rfl) ?_
    exact Ev.val rfl
  unfold laws_FnPairLess.f
  by_cases d : (l.length : Int) > 1048576
  · simp only [if_pos d]; exact yes
  simp only [if_neg d]
  by_cases d2 : (m.length : Int) > 1048576
  · rw [decide_eq_true d2]; exact yes
  rw [decide_eq_false d2]
  refine Ev.step (fun k => by simp only [laws_FnPairLess.j0, Bool.false_eq_true, if_false] <;> exact rfl) ?_
  obtain ⟨n, E, L, d1, hE, hL⟩ := drawPairOk_ev l h
  have hEb : (E.length : Int) < big := by unfold big; omega
  have s := pairSpec n E L hEb (by unfold big; omega)
  have i := pairImpl n E L hEb (by omega)
  have same : Ev (fun k => laws_FnPairLess.j1 k m L (decide (pairOk n E L)) true n E) true := by
    refine Ev.step (fun k => by simp only [laws_FnPairLess.j1, if_true] <;> exact rfl) ?_
    exact Ev.bind s (Ev.val (by simp))
  have bb : (decide (pairOk n E L) != decide (pairOk n E L)) = false := by simp
  refine Ev.bind d1 (Ev.bind i (Ev.bind s ?_))
  simp only [bb, Bool.false_eq_true, if_false]
  by_cases c : pairOk n E L
  · rw [decide_eq_true c] at same ⊢
    simp only [if_true]
    by_cases z : (L.length : Int) = 0
    · have z' : ((L.length : Int) == 0) = true := beq_iff_eq.2 z
      rw [z']
      exact same
    · have z' : ((L.length : Int) == 0) = false := beq_eq_false_iff_ne.2 z
      rw [z']
      exact less_main n E L m c (by omega) (by omega) z
  · rw [decide_eq_false c] at same ⊢
    simp only [Bool.false_eq_true, if_false]
    exact same
end Go.Proofs.Ytjkeagcenmmknaa.P
