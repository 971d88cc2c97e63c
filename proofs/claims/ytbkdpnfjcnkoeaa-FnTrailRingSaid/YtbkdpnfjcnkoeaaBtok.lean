/- Trails: what the program and the reference come to when asked whether a row is one. -/
import Derived.Test.YtbkdpnfjcnkoeaaBksc
import Derived.Test.YtbkdpnfjcnkoeaaBki
import Derived.Test.YtbkdpnfjcnkoeaaF17
import Derived.Test.YtbkdpnfjcnkoeaaF19
namespace Go.Proofs.Ytbkdpnfjcnkoeaa.P
set_option linter.unusedSimpArgs false
set_option linter.unusedVariables false
open Go.RowKit Go.Proofs.YtbkdpnfjcnkoeaaW.PrintWords Go.Proofs.Ytbkdpnfjcnkoeaa.G
theorem rd_last (p : List Int) (q : Int) (suf : List Int) : rd (p ++ [q] ++ suf) (p.length : Int) = q := by
  have : p ++ [q] ++ suf = p ++ q :: suf := by simp
  rw [this]; exact rd_mid p q suf
theorem len_pre {α : Type} (p : List α) (q : α) (h : ((p ++ [q]).length : Int) < big) : wrap64 (((p ++ [q]).length : Int) - 1) = (p.length : Int) := by
  rw [w64 (by rw [List.length_append]; omega) (by unfold big at h; omega)]; simp
theorem lt_pre {α : Type} (p : List α) (q : α) (suf : List α) : (p.length : Int) < ((p ++ [q] ++ suf).length : Int) := by simp; omega

theorem trailSpec_l0 (n : Int) : ∀ (suf p : List Int) (q : Int) (X : List S63), (((p ++ [q]) ++ suf).length : Int) < big → ok n X →
    Ev (fun k => spec_TrailOk.l0 k ((p ++ [q]) ++ suf) ((p ++ [q]).length : Int) n X) (decide (cuts X (ties (q :: suf)))) := by
  intro suf
  induction suf with
  | nil =>
    intro p q X hb hX
    refine Ev.step (fun k => by simp only [spec_TrailOk.l0, nlt_end, if_false] <;> exact rfl) ?_
    exact Ev.val (congrArg some (decide_eq_true (by simp [ties, cuts])).symm)
  | cons t suf ih =>
    intro p q X hb hX
    have hp : ((p ++ [q]).length : Int) < big := len_mid hb
    have hXl : (X.length : Int) ≤ 1048576 := by have := ok_len hX; omega
    have e2 := rd_last p q (t :: suf)
    have l2 := lt_pre p q (t :: suf)
    refine Ev.step (fun k => by simp only [spec_TrailOk.l0, lt_mid, nn, if_true, rd_mid, len_pre p q hp, l2, w_succ (t := t) hp, e2] <;> exact rfl) ?_
    refine Ev.bind (specCut_ev n q t X hXl) ?_
    by_cases c : tieOf q t ∈ X
    · simp only [if_pos (And.intro hX c), if_true]
      rw [app_one (p ++ [q]) t suf]
      refine Ev.eq (ih (p ++ [q]) t (cut X (tieOf q t)) (len_app hb) (ok_cut _ hX)) ?_
      rw [decide_eq_decide]
      simp [ties, cuts, c]
    · have c' : ¬ (ok n X ∧ tieOf q t ∈ X) := fun h => c h.2
      simp only [if_neg c', Bool.false_eq_true, if_false]
      exact Ev.val (congrArg some (decide_eq_false (by simp [ties, cuts, c])).symm)
theorem trailSpec (n : Int) (E : List S63) (row : List Int) (hE : (E.length : Int) ≤ 1048576) (hR : (row.length : Int) ≤ 1048576) :
    Ev (fun k => spec_TrailOk.f k n E row) (decide (trailOk n E row)) := by
  unfold spec_TrailOk.f
  have hEb : (E.length : Int) < big := by unfold big; omega
  have hRb : (row.length : Int) < big := by unfold big; omega
  refine Ev.bind (specOk n E hEb) ?_
  by_cases c : ok n E
  · simp only [c, decide_true, if_true]
    rw [w64 (by omega) (by omega)]
    by_cases d : (row.length : Int) = (E.length : Int) + 1
    · simp only [if_pos d]
      cases row with
      | nil => simp at d; omega
      | cons a r =>
        have h0 : (0 : Int) < ((a :: r).length : Int) := by rw [List.length_cons]; omega
        have r0 : rd (a :: r) 0 = a := rfl
        simp only [h0, if_true, r0]
        refine Ev.bind (l1Knot_ev n a E hEb) ?_
        by_cases e : 0 ≤ a ∧ a < n
        · have e' : (!decide (ok n E ∧ 0 ≤ a ∧ a < n)) = false := by rw [decide_eq_true ⟨c, e⟩]; rfl
          refine Ev.step (fun k => by simp only [spec_TrailOk.j0, e', Bool.false_eq_true, if_false, copy_eq n E hE, Option.bind_some] <;> exact rfl) ?_
          refine Ev.eq (trailSpec_l0 n r [] a E hRb c) ?_
          rw [decide_eq_decide]
          unfold trailOk
          constructor
          · intro h
            exact ⟨c, by omega, ties_knots c.2.2.1 r a e (cuts_iff.1 h).1, h⟩
          · exact fun h => h.2.2.2
        · have e' : (!decide (ok n E ∧ 0 ≤ a ∧ a < n)) = true := by rw [decide_eq_false (fun h => e h.2)]; rfl
          refine Ev.step (fun k => by simp only [spec_TrailOk.j0, e', if_true] <;> exact rfl) ?_
          exact Ev.val (congrArg some (decide_eq_false (fun h => e (h.2.2.1 a (List.mem_cons_self)))).symm)
    · simp only [if_neg d]
      refine Ev.step (fun k => by simp only [spec_TrailOk.j0, if_true] <;> exact rfl) ?_
      exact Ev.val (congrArg some (decide_eq_false (fun h => d (by have := h.2.1; omega))).symm)
  · simp only [c, decide_false, Bool.false_eq_true, if_false]
    refine Ev.step (fun k => by simp only [spec_TrailOk.j0, if_true] <;> exact rfl) ?_
    exact Ev.val (congrArg some (decide_eq_false (by simp [trailOk, c])).symm)

/-- each knot is one, and tied to the one ahead -/
def walkOk (n : Int) (E : List Tie) (row : List Int) : Prop := (∀ v ∈ row, 0 ≤ v ∧ v < n) ∧ ∀ t ∈ ties row, t ∈ E
instance (n : Int) (E : List Tie) (row : List Int) : Decidable (walkOk n E row) := by unfold walkOk; infer_instance
theorem walk_l0 (n : Int) (E : List S63) (hE : (E.length : Int) < big) : ∀ (suf p : List Int) (q : Int), (((p ++ [q]) ++ suf).length : Int) < big →
    Ev (fun k => impl_Net_walk.l0 k ((p ++ [q]) ++ suf) ((p ++ [q]) ++ suf) (((p ++ [q]) ++ suf).length : Int) ((p ++ [q]).length : Int) n E) (decide ((∀ v ∈ suf, 0 ≤ v ∧ v < n) ∧ ∀ t ∈ ties (q :: suf), t ∈ E)) := by
  intro suf
  induction suf with
  | nil =>
    intro p q hb
    refine Ev.step (fun k => by simp only [impl_Net_walk.l0, nlt_end, if_false] <;> exact rfl) ?_
    exact Ev.val (congrArg some (decide_eq_true (by simp [ties])).symm)
  | cons t suf ih =>
    intro p q hb
    have hp : ((p ++ [q]).length : Int) < big := len_mid hb
    have e1 : ((p ++ [q]).length : Int) > 0 := by rw [List.length_append, List.length_singleton]; omega
    have e2 := rd_last p q (t :: suf)
    have l2 := lt_pre p q (t :: suf)
    refine Ev.step (fun k => by simp only [impl_Net_walk.l0, lt_mid, nn, if_true, rd_mid, len_pre p q hp, l2, w_succ (t := t) hp, e1, e2, knot_eq, Option.bind_some, decide_eq_true_eq] <;> exact rfl) ?_
    by_cases c : 0 ≤ t ∧ t < n
    · simp only [if_pos c]
      refine Ev.bind (has_ev n q t E hE) ?_
      by_cases d : tieOf q t ∈ E
      · simp only [d, decide_true, if_true]
        rw [app_one (p ++ [q]) t suf]
        refine Ev.eq (ih (p ++ [q]) t (len_app hb)) ?_
        rw [decide_eq_decide]
        simp [ties, c, d]
      · simp only [d, decide_false, Bool.false_eq_true, if_false]
        exact Ev.val (congrArg some (decide_eq_false (by simp [ties, d])).symm)
    · simp only [if_neg c]
      exact Ev.val (congrArg some (decide_eq_false (fun h => c (h.1 t (List.mem_cons_self)))).symm)
theorem walk_ev (n : Int) (E : List S63) (row : List Int) (hE : (E.length : Int) < big) (hR : (row.length : Int) < big) :
    Ev (fun k => impl_Net_walk.f k n E row) (decide (walkOk n E row)) := by
  unfold impl_Net_walk.f
  cases row with
  | nil =>
    refine Ev.step (fun k => by simp [impl_Net_walk.l0] <;> exact rfl) ?_
    exact Ev.val (congrArg some (decide_eq_true (by simp [walkOk, ties])).symm)
  | cons a r =>
    have h0 : (0 : Int) < ((a :: r).length : Int) := by rw [List.length_cons]; omega
    have r0 : rd (a :: r) 0 = a := rfl
    have z0 : (0 : Int) ≤ 0 := Int.le_refl 0
    have g0 : ¬ (0 : Int) > 0 := by omega
    have w1 : wrap64 (0 + 1) = 1 := w64 (by omega) (by omega)
    refine Ev.step (fun k => by simp only [impl_Net_walk.l0, h0, z0, g0, if_true, if_false, r0, w1, knot_eq, Option.bind_some, decide_eq_true_eq] <;> exact rfl) ?_
    by_cases c : 0 ≤ a ∧ a < n
    · simp only [if_pos c]
      refine Ev.eq (walk_l0 n E hE r [] a hR) ?_
      rw [decide_eq_decide]
      simp [walkOk, c]
    · simp only [if_neg c]
      exact Ev.val (congrArg some (decide_eq_false (fun h => c (h.1 a (List.mem_cons_self)))).symm)
theorem trailImpl_l0 (n : Int) : ∀ (suf p : List Int) (q : Int) (X : List S63), (((p ++ [q]) ++ suf).length : Int) < big → (X.length : Int) ≤ 1048576 →
    Ev (fun k => impl_TrailOk.l0 k ((p ++ [q]) ++ suf) ((p ++ [q]).length : Int) n X) (decide (left X (ties (q :: suf)) = [])) := by
  intro suf
  induction suf with
  | nil =>
    intro p q X hb hX
    refine Ev.step (fun k => by simp only [impl_TrailOk.l0, nlt_end, if_false] <;> exact rfl) ?_
    refine Ev.val ?_
    simp only [ties, left, Option.some.injEq]
    cases X <;> simp
    omega
  | cons t suf ih =>
    intro p q X hb hX
    have hp : ((p ++ [q]).length : Int) < big := len_mid hb
    have e2 := rd_last p q (t :: suf)
    have l2 := lt_pre p q (t :: suf)
    refine Ev.step (fun k => by simp only [impl_TrailOk.l0, lt_mid, nn, if_true, rd_mid, len_pre p q hp, l2, w_succ (t := t) hp, e2, tie_eq, Option.bind_some] <;> exact rfl) ?_
    refine Ev.bind (lessOne_ev n X _ hX) ?_
    rw [app_one (p ++ [q]) t suf]
    refine Ev.eq (ih (p ++ [q]) t (cut X (tieOf q t)) (len_app hb) ?_) ?_
    · have : (cut X (tieOf q t)).length ≤ X.length := List.length_filter_le _ _
      omega
    · rfl
theorem trailImpl (n : Int) (E : List S63) (row : List Int) (hE : (E.length : Int) ≤ 1048576) (hR : (row.length : Int) ≤ 1048576) :
    Ev (fun k => impl_TrailOk.f k n E row) (decide (trailOk n E row)) := by
  unfold impl_TrailOk.f
  have hEb : (E.length : Int) < big := by unfold big; omega
  have hRb : (row.length : Int) < big := by unfold big; omega
  refine Ev.bind (implOk n E hEb) ?_
  by_cases c : ok n E
  · simp only [c, decide_true, if_true]
    rw [w64 (by omega) (by omega)]
    by_cases d : (row.length : Int) = (E.length : Int) + 1
    · simp only [if_pos d]
      refine Ev.bind (walk_ev n E row hEb hRb) ?_
      by_cases e : walkOk n E row
      · have e' : (!decide (walkOk n E row)) = false := by rw [decide_eq_true e]; rfl
        refine Ev.step (fun k => by simp only [impl_TrailOk.j0, e', Bool.false_eq_true, if_false] <;> exact rfl) ?_
        cases row with
        | nil => simp at d; omega
        | cons a r =>
          refine Ev.eq (trailImpl_l0 n r [] a E hRb hE) ?_
          rw [decide_eq_decide, left_nil (asc_nodup c.2.2.2) (by rw [ties_len]; simp at d ⊢; omega)]
          unfold trailOk
          exact ⟨fun h => ⟨c, by omega, e.1, h⟩, fun h => h.2.2.2⟩
      · have e' : (!decide (walkOk n E row)) = true := by rw [decide_eq_false e]; rfl
        refine Ev.step (fun k => by simp only [impl_TrailOk.j0, e', if_true] <;> exact rfl) ?_
        exact Ev.val (congrArg some (decide_eq_false (fun h => e ⟨h.2.2.1, (cuts_iff.1 h.2.2.2).1⟩)).symm)
    · simp only [if_neg d]
      refine Ev.step (fun k => by simp only [impl_TrailOk.j0, if_true] <;> exact rfl) ?_
      exact Ev.val (congrArg some (decide_eq_false (fun h => d (by have := h.2.1; omega))).symm)
  · simp only [c, decide_false, Bool.false_eq_true, if_false]
    refine Ev.step (fun k => by simp only [impl_TrailOk.j0, if_true] <;> exact rfl) ?_
    exact Ev.val (congrArg some (decide_eq_false (by simp [trailOk, c])).symm)
end Go.Proofs.Ytbkdpnfjcnkoeaa.P
