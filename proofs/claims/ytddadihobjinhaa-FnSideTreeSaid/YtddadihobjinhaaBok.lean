/- What the printed functions on nets come to: whether a net is valid. -/
import Derived.Test.YtddadihobjinhaaGb
import Derived.Test.YtddadihobjinhaaF2
import Derived.Test.YtddadihobjinhaaF3
namespace Go.Proofs.Ytddadihobjinhaa.P
set_option linter.unusedSimpArgs false
set_option linter.unusedVariables false
open Go.RowKit Go.Proofs.YtddadihobjinhaaW.PrintWords Go.Proofs.Ytddadihobjinhaa.G

theorem rdI_mid (pre : List S53) (t : S53) (suf : List S53) : rd_T53 (pre ++ t :: suf) (pre.length : Int) = t := by
  unfold rd_T53; exact getD_mid pre t suf _

theorem in_eq (a b c : Int) : spec_l6In.f a b c = some (decide (b ≤ a ∧ a ≤ c)) := by
  unfold spec_l6In.f
  by_cases h : b ≤ a <;> simp [h]
theorem less_eq (a b c d : Int) : spec_l1Less.f a b c d = some (decide (tlt ⟨a, b⟩ ⟨c, d⟩)) := by
  unfold spec_l1Less.f tlt
  by_cases h : a < c
  · simp [h]
  · by_cases h2 : a = c <;> simp [h, h2]
theorem len_pred {α : Type} (p : List α) (q : α) (h : ((p ++ [q]).length : Int) < big) : wrap64 (((p ++ [q]).length : Int) - 1) = (p.length : Int) := by
  rw [w64 (by rw [List.length_append]; omega) (by unfold big at h; omega)]; simp
theorem mid_one {α : Type} (p : List α) (q : α) (suf : List α) : p ++ [q] ++ suf = p ++ q :: suf := by simp
theorem lt_mid2 {α : Type} (p : List α) (q : α) (suf : List α) : (p.length : Int) < ((p ++ [q] ++ suf).length : Int) := by simp; omega

theorem specOk_l0 (n : Int) (h0 : 0 ≤ n) (h8 : n ≤ 8) : ∀ (suf p : List S53) (q : S53), (((p ++ [q]) ++ suf).length : Int) < big →
    Ev (fun k => spec_NetOk.l0 k ((p ++ [q]).length : Int) n ((p ++ [q]) ++ suf)) (decide ((∀ t ∈ suf, inr n t) ∧ asc (q :: suf))) := by
  intro suf
  induction suf with
  | nil =>
    intro p q hb
    refine Ev.step (fun k => by simp only [spec_NetOk.l0, nlt_end, if_false] <;> exact rfl) ?_
    exact Ev.val (congrArg some (decide_eq_true (by simp [asc])).symm)
  | cons t suf ih =>
    intro p q hb
    have hp : ((p ++ [q]).length : Int) < big := len_mid hb
    have e1 : ((p ++ [q]).length : Int) > 0 := by rw [List.length_append, List.length_singleton]; omega
    refine Ev.step (fun k => by simp only [spec_NetOk.l0, lt_mid, nn, if_true, rdI_mid, in_eq, less_eq, Option.bind_some, e1, len_pred p q hp, lt_mid2, w_succ (t := t) hp] <;> exact rfl) ?_
    have e2 : rd_T53 (p ++ [q] ++ t :: suf) (p.length : Int) = q := by rw [mid_one]; exact rdI_mid p q _
    simp only [e2, decide_eq_true_eq]
    rw [w64 (by omega) (by omega)]
    by_cases c1 : 0 ≤ t.f0 ∧ t.f0 ≤ n - 1
    · simp only [if_pos c1]
      rw [w64 (by omega) (by omega)]
      by_cases c2 : t.f0 + 1 ≤ t.f1 ∧ t.f1 ≤ n - 1
      · simp only [if_pos c2]
        have ht : inr n t := by unfold inr; omega
        by_cases c3 : tlt q t
        · simp only [if_pos c3]
          rw [app_one (p ++ [q]) t suf]
          refine Ev.eq (ih (p ++ [q]) t (len_app hb)) ?_
          rw [decide_eq_decide]
          simp [asc, ht, c3]
        · simp only [if_neg c3]
          exact Ev.val (by simp [asc, c3])
      · simp only [if_neg c2]
        refine Ev.val ?_
        have : ¬ inr n t := by unfold inr; omega
        simp [this]
    · simp only [if_neg c1]
      refine Ev.val ?_
      have : ¬ inr n t := by unfold inr; omega
      simp [this]

theorem specOk (n : Int) (E : List S53) (hb : (E.length : Int) < big) : Ev (fun k => spec_NetOk.f k n E) (decide (ok n E)) := by
  unfold spec_NetOk.f
  simp only [in_eq, Option.bind_some, decide_eq_true_eq]
  by_cases c1 : 0 ≤ n ∧ n ≤ 8
  · simp only [if_pos c1]
    by_cases c2 : (E.length : Int) > 64
    · refine Ev.step (fun k => by simp only [spec_NetOk.j0, c2, decide_true, if_true] <;> exact rfl) ?_
      exact Ev.val (by rw [decide_eq_false (fun h => by have := ok_len h; omega)])
    · refine Ev.step (fun k => by simp only [spec_NetOk.j0, c2, decide_false, Bool.false_eq_true, if_false] <;> exact rfl) ?_
      cases E with
      | nil =>
        refine Ev.step (fun k => by simp [spec_NetOk.l0] <;> exact rfl) ?_
        exact Ev.val (by simp [ok, asc, c1])
      | cons t suf =>
        have l1 : (0 : Int) < ((t :: suf).length : Int) := by rw [List.length_cons]; omega
        have r1 : rd_T53 (t :: suf) 0 = t := rfl
        have h0 : (0 : Int) ≤ 0 := Int.le_refl 0
        have w1 : wrap64 (0 + 1) = 1 := w64 (by omega) (by omega)
        have g1 : ¬ (0 : Int) > 0 := by omega
        refine Ev.step (fun k => by simp only [spec_NetOk.l0, l1, h0, if_true, r1, in_eq, Option.bind_some, w1, g1, if_false, decide_eq_true_eq] <;> exact rfl) ?_
        rw [w64 (by omega) (by omega)]
        by_cases d1 : 0 ≤ t.f0 ∧ t.f0 ≤ n - 1
        · simp only [if_pos d1]
          rw [w64 (by omega) (by omega)]
          by_cases d2 : t.f0 + 1 ≤ t.f1 ∧ t.f1 ≤ n - 1
          · simp only [if_pos d2]
            have ht : inr n t := by unfold inr; omega
            refine Ev.eq (specOk_l0 n c1.1 c1.2 suf [] t hb) ?_
            rw [decide_eq_decide]
            simp [ok, c1, ht]
          · simp only [if_neg d2]
            refine Ev.val ?_
            have : ¬ inr n t := by unfold inr; omega
            simp [this, ok]
        · simp only [if_neg d1]
          refine Ev.val ?_
          have : ¬ inr n t := by unfold inr; omega
          simp [this, ok]
  · simp only [if_neg c1]
    refine Ev.step (fun k => by simp only [spec_NetOk.j0, if_true] <;> exact rfl) ?_
    refine Ev.val ?_
    have : ¬ ok n E := fun h => c1 ⟨h.1, h.2.1⟩
    simp [this]


/-! ### the program's own -/
def cmp3 (x y : Int) : Int := if x < y then -1 else if y < x then 1 else 0
theorem cmp_eq (a b : Int) : cmp_Compare_int.f a b = some (cmp3 a b) := by
  unfold cmp_Compare_int.f cmp3
  simp only [cmp_isNaN_int.f, bne_self_eq_false, Option.bind_some, Bool.false_eq_true, if_false]
  repeat' split
  all_goals first | rfl | omega
def ord (a b c d : Int) : Int := if cmp3 a c = 0 then cmp3 b d else cmp3 a c
theorem ord_neg (a b c d : Int) : ord a b c d ≥ 0 ↔ ¬ tlt ⟨a, b⟩ ⟨c, d⟩ := by
  unfold ord cmp3 tlt
  simp only
  repeat' split
  all_goals omega
theorem or_two (x y : Int) : Ev (fun k => cmp_Or_int.f k [x, y]) (if x = 0 then y else x) := by
  unfold cmp_Or_int.f
  have l : (([x, y] : List Int).length : Int) = 2 := rfl
  have r0 : rd [x, y] 0 = x := rfl
  have r1 : rd [x, y] 1 = y := rfl
  have h0 : (0 : Int) ≤ 0 := Int.le_refl 0
  have a1 : (0 : Int) ≤ 1 := by omega
  have a2 : (0 : Int) < 2 := by omega
  have a3 : (1 : Int) < 2 := by omega
  have a4 : ¬ (2 : Int) < 2 := by omega
  have w1 : wrap64 (0 + 1) = 1 := w64 (by omega) (by omega)
  have w2 : wrap64 (1 + 1) = 2 := w64 (by omega) (by omega)
  refine Ev.step (fun k => by simp only [cmp_Or_int.l0, l, r0, h0, a2, if_true, w1] <;> exact rfl) ?_
  by_cases c : x = 0
  · simp only [if_pos c]
    refine Ev.step (fun k => by simp only [cmp_Or_int.l0, l, r1, a1, a3, if_true, w2] <;> exact rfl) ?_
    by_cases d : y = 0
    · simp only [if_pos d]
      refine Ev.step (fun k => by simp only [cmp_Or_int.l0, a4, if_false] <;> exact rfl) ?_
      exact Ev.val (by rw [d])
    · simp only [if_neg d]
      exact Ev.val rfl
  · simp only [if_neg c]
    exact Ev.val rfl
theorem order_ev (a b c d : Int) : Ev (fun k => impl_tieOrder.f k a b c d) (ord a b c d) := by
  unfold impl_tieOrder.f
  simp only [cmp_eq, Option.bind_some]
  exact Ev.bind (or_two _ _) (Ev.val rfl)
theorem ascending_l0 : ∀ (suf p : List S53) (q : S53), (((p ++ [q]) ++ suf).length : Int) < big →
    Ev (fun k => impl_ascending.l0 k ((p ++ [q]) ++ suf) ((p ++ [q]).length : Int)) (decide (asc (q :: suf))) := by
  intro suf
  induction suf with
  | nil =>
    intro p q hb
    refine Ev.step (fun k => by simp only [impl_ascending.l0, nlt_end, if_false] <;> exact rfl) ?_
    exact Ev.val (congrArg some (decide_eq_true (by simp [asc])).symm)
  | cons t suf ih =>
    intro p q hb
    have hp : ((p ++ [q]).length : Int) < big := len_mid hb
    have e2 : rd_T53 (p ++ [q] ++ t :: suf) (p.length : Int) = q := by rw [mid_one]; exact rdI_mid p q _
    refine Ev.step (fun k => by simp only [impl_ascending.l0, lt_mid, nn, if_true, rdI_mid, len_pred p q hp, lt_mid2, w_succ (t := t) hp, e2] <;> exact rfl) ?_
    refine Ev.bind (order_ev _ _ _ _) ?_
    simp only [ord_neg]
    by_cases c3 : tlt q t
    · simp only [c3, not_true_eq_false, if_false]
      rw [app_one (p ++ [q]) t suf]
      refine Ev.eq (ih (p ++ [q]) t (len_app hb)) ?_
      rw [decide_eq_decide]
      simp [asc, c3]
    · simp only [c3, not_false_eq_true, if_true]
      exact Ev.val (by simp [asc, c3])
theorem ascending_ev (E : List S53) (hb : (E.length : Int) < big) : Ev (fun k => impl_ascending.f k E) (decide (asc E)) := by
  unfold impl_ascending.f
  cases E with
  | nil =>
    refine Ev.step (fun k => by simp [impl_ascending.l0] <;> exact rfl) ?_
    exact Ev.val (congrArg some (decide_eq_true (by simp [asc])).symm)
  | cons t suf => exact ascending_l0 suf [] t hb
theorem implOk_l0 (n : Int) (E : List S53) (hE : (E.length : Int) < big) : ∀ (suf p : List S53), ((p ++ suf).length : Int) < big →
    Ev (fun k => impl_NetOk.l0 k (p ++ suf) ((p ++ suf).length : Int) (p.length : Int) n E) (decide ((∀ t ∈ suf, inr n t) ∧ asc E)) := by
  intro suf
  induction suf with
  | nil =>
    intro p hb
    refine Ev.step (fun k => by simp only [impl_NetOk.l0, nlt_end, if_false] <;> exact rfl) ?_
    refine Ev.bind (ascending_ev E hE) ?_
    exact Ev.val (by simp)
  | cons t suf ih =>
    intro p hb
    have hp : (p.length : Int) < big := len_mid hb
    refine Ev.step (fun k => by simp only [impl_NetOk.l0, lt_mid, nn, if_true, rdI_mid, w_succ (t := t) hp] <;> exact rfl) ?_
    by_cases c1 : t.f0 < 0
    · simp only [if_pos c1]
      exact Ev.val (by have : ¬ inr n t := by unfold inr; omega
                       simp [this])
    · simp only [if_neg c1]
      by_cases c2 : t.f0 ≥ t.f1
      · simp only [if_pos c2]
        exact Ev.val (by have : ¬ inr n t := by unfold inr; omega
                         simp [this])
      · simp only [if_neg c2]
        by_cases c3 : t.f1 ≥ n
        · simp only [if_pos c3]
          exact Ev.val (by have : ¬ inr n t := by unfold inr; omega
                           simp [this])
        · simp only [if_neg c3]
          rw [app_one p t suf]
          refine Ev.eq (ih (p ++ [t]) (len_app hb)) ?_
          have : inr n t := by unfold inr; omega
          rw [decide_eq_decide]
          simp [this]
theorem implOk (n : Int) (E : List S53) (hb : (E.length : Int) < big) : Ev (fun k => impl_NetOk.f k n E) (decide (ok n E)) := by
  unfold impl_NetOk.f
  by_cases c1 : n < 0
  · simp only [if_pos c1]
    refine Ev.step (fun k => by simp only [impl_NetOk.j0, if_true] <;> exact rfl) ?_
    exact Ev.val (by have : ¬ ok n E := fun h => by have := h.1; omega
                     simp [this])
  · simp only [if_neg c1]
    by_cases c2 : n > 8
    · refine Ev.step (fun k => by simp only [impl_NetOk.j0, c2, decide_true, if_true] <;> exact rfl) ?_
      exact Ev.val (by have : ¬ ok n E := fun h => by have := h.2.1; omega
                       simp [this])
    · refine Ev.step (fun k => by simp only [impl_NetOk.j0, c2, decide_false, Bool.false_eq_true, if_false] <;> exact rfl) ?_
      refine Ev.eq (implOk_l0 n E hb E [] hb) ?_
      rw [decide_eq_decide]
      unfold ok
      constructor
      · exact fun h => ⟨by omega, by omega, h.1, h.2⟩
      · exact fun h => ⟨h.2.2.1, h.2.2.2⟩

end Go.Proofs.Ytddadihobjinhaa.P
