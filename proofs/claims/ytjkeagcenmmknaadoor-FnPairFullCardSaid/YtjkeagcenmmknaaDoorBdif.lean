/- Whether a number is among numbers, and whether none stands twice: as the program has it. -/
import Derived.Test.YtjkeagcenmmknaaDoorGb
import Derived.Test.YtjkeagcenmmknaaDoorF17
namespace Go.Proofs.YtjkeagcenmmknaaDoor.P
set_option linter.unusedSimpArgs false
set_option linter.unusedVariables false
open Go.RowKit Go.Proofs.YtjkeagcenmmknaaDoorW.PrintWords Go.Proofs.YtjkeagcenmmknaaDoor.G
theorem indexInt_l0 (a : Int) : ∀ (suf p : List Int), ((p ++ suf).length : Int) < big →
    ∃ r, Ev (fun k => slices_Index_int_int.l0 k (p ++ suf) a ((p ++ suf).length : Int) (p.length : Int)) r ∧ (r ≥ 0 ↔ a ∈ suf) := by
  intro suf
  induction suf with
  | nil =>
    intro p hb
    refine ⟨-1, Ev.step (fun k => by simp only [slices_Index_int_int.l0, nlt_end, if_false] <;> exact rfl) (Ev.val rfl), by simp⟩
  | cons t suf ih =>
    intro p hb
    have hp : (p.length : Int) < big := len_mid hb
    by_cases c : a = t
    · refine ⟨p.length, ?_, ?_⟩
      · refine Ev.step (fun k => by simp only [slices_Index_int_int.l0, lt_mid, nn, if_true, rd_mid, w_succ (t := t) hp, if_pos c] <;> exact rfl) ?_
        exact Ev.val rfl
      · simp [c]
    · obtain ⟨r, hr, hi⟩ := ih (p ++ [t]) (len_app hb)
      refine ⟨r, ?_, ?_⟩
      · refine Ev.step (fun k => by simp only [slices_Index_int_int.l0, lt_mid, nn, if_true, rd_mid, w_succ (t := t) hp, if_neg c] <;> exact rfl) ?_
        rw [app_one p t suf]
        exact hr
      · rw [hi]; simp [c]
theorem containsInt_ev (l : List Int) (a : Int) (hb : (l.length : Int) < big) : Ev (fun k => slices_Contains_int_int.f k l a) (decide (a ∈ l)) := by
  unfold slices_Contains_int_int.f slices_Index_int_int.f
  obtain ⟨r, hr, hi⟩ := indexInt_l0 a l [] hb
  refine Ev.bind hr (Ev.val ?_)
  exact congrArg some (decide_eq_decide.2 hi)
/-- none stands twice, nor among others -/
def fresh : List Int → List Int → Prop
  | _, [] => True
  | vs, x :: r => x ∉ vs ∧ fresh (vs ++ [x]) r
instance fresh_dec : (vs l : List Int) → Decidable (fresh vs l)
  | _, [] => isTrue trivial
  | vs, x :: r => by
    have := fresh_dec (vs ++ [x]) r
    unfold fresh
    infer_instance
theorem fresh_iff (l : List Int) : ∀ vs : List Int, fresh vs l ↔ l.Nodup ∧ ∀ x ∈ l, x ∉ vs := by
  induction l with
  | nil => intro vs; simp [fresh]
  | cons x r ih =>
    intro vs
    unfold fresh
    rw [ih, List.nodup_cons]
    constructor
    · rintro ⟨h1, h2, h3⟩
      refine ⟨⟨fun hx => ?_, h2⟩, fun y hy => ?_⟩
      · exact h3 x hx (by simp)
      · rcases List.mem_cons.1 hy with rfl | hy
        · exact h1
        · exact fun hv => h3 y hy (by simp [hv])
    · rintro ⟨⟨h1, h2⟩, h3⟩
      refine ⟨h3 x (by simp), h2, fun y hy hv => ?_⟩
      rcases List.mem_append.1 hv with hv | hv
      · exact h3 y (by simp [hy]) hv
      · rw [List.mem_singleton] at hv
        subst hv
        exact h1 hy
theorem different_l0 : ∀ (suf p : List Int), ((p ++ suf).length : Int) < big →
    Ev (fun k => impl_different.l0 k (p ++ suf) (p ++ suf) ((p ++ suf).length : Int) (p.length : Int)) (decide (fresh p suf)) := by
  intro suf
  induction suf with
  | nil =>
    intro p hb
    refine Ev.step (fun k => by simp only [impl_different.l0, nlt_end, if_false] <;> exact rfl) ?_
    exact Ev.val (congrArg some (decide_eq_true (by simp [fresh])).symm)
  | cons t suf ih =>
    intro p hb
    have hp : (p.length : Int) < big := len_mid hb
    have hle : (p.length : Int) ≤ ((p ++ t :: suf).length : Int) := Int.le_of_lt (lt_mid _ _ _)
    have htk : (p ++ t :: suf).take ((p.length : Int)).toNat = p := by simp
    refine Ev.step (fun k => by simp only [impl_different.l0, lt_mid, nn, if_true, rd_mid, w_succ (t := t) hp, hle, htk] <;> exact rfl) ?_
    refine Ev.bind (containsInt_ev p t hp) ?_
    by_cases c : t ∈ p
    · simp only [c, decide_true, if_true]
      exact Ev.val (congrArg some (decide_eq_false (by simp [fresh, c])).symm)
    · simp only [c, decide_false, Bool.false_eq_true, if_false]
      rw [app_one p t suf]
      refine Ev.eq (ih (p ++ [t]) (len_app hb)) ?_
      rw [decide_eq_decide]
      simp [fresh, c]
theorem different_ev (l : List Int) (hb : (l.length : Int) < big) : Ev (fun k => impl_different.f k l) (decide l.Nodup) := by
  unfold impl_different.f
  refine Ev.eq (different_l0 l [] hb) ?_
  rw [decide_eq_decide, fresh_iff]
  simp
end Go.Proofs.YtjkeagcenmmknaaDoor.P
