/- Whether a tie is among ties: as the program has it. -/
import Derived.Test.YtjkeagcenmmknaaDoorGb
import Derived.Test.YtjkeagcenmmknaaDoorF13
namespace Go.Proofs.YtjkeagcenmmknaaDoor.P
set_option linter.unusedSimpArgs false
set_option linter.unusedVariables false
open Go.RowKit Go.Proofs.YtjkeagcenmmknaaDoorW.PrintWords Go.Proofs.YtjkeagcenmmknaaDoor.G
theorem rdC_mid (pre : List S51) (t : S51) (suf : List S51) : rd_T51 (pre ++ t :: suf) (pre.length : Int) = t := by
  unfold rd_T51; exact getD_mid pre t suf _
theorem tie_beq2 (a b : Int) (t : Tie) : (a == t.f0 && (b == t.f1)) = decide ((⟨a, b⟩ : Tie) = t) := by
  obtain ⟨c, d⟩ := t
  simp only [Tie.mk.injEq]
  by_cases h : a = c <;> by_cases k : b = d <;> simp [h, k]
theorem indexTie_l0 (a b : Int) : ∀ (suf p : List S51), ((p ++ suf).length : Int) < big →
    ∃ r, Ev (fun k => slices_Index_impl_Tie_impl_Tie.l0 k (p ++ suf) ((p ++ suf).length : Int) (p.length : Int) a b) r ∧ (r ≥ 0 ↔ (⟨a, b⟩ : Tie) ∈ suf) := by
  intro suf
  induction suf with
  | nil =>
    intro p hb
    refine ⟨-1, Ev.step (fun k => by simp only [slices_Index_impl_Tie_impl_Tie.l0, nlt_end, if_false] <;> exact rfl) (Ev.val rfl), by simp⟩
  | cons t suf ih =>
    intro p hb
    have hp : (p.length : Int) < big := len_mid hb
    by_cases c : (⟨a, b⟩ : Tie) = t
    · refine ⟨p.length, ?_, ?_⟩
      · refine Ev.step (fun k => by simp only [slices_Index_impl_Tie_impl_Tie.l0, lt_mid, nn, if_true, rdC_mid, w_succ (t := t) hp, tie_beq2, decide_eq_true_eq, if_pos c] <;> exact rfl) ?_
        exact Ev.val rfl
      · simp [c]
    · obtain ⟨r, hr, hi⟩ := ih (p ++ [t]) (len_app hb)
      refine ⟨r, ?_, ?_⟩
      · refine Ev.step (fun k => by simp only [slices_Index_impl_Tie_impl_Tie.l0, lt_mid, nn, if_true, rdC_mid, w_succ (t := t) hp, tie_beq2, decide_eq_true_eq, if_neg c] <;> exact rfl) ?_
        rw [app_one p t suf]
        exact hr
      · rw [hi]; simp [c]
theorem containsTie_ev (E : List S51) (a b : Int) (hb : (E.length : Int) < big) : Ev (fun k => slices_Contains_impl_Tie_impl_Tie.f k E a b) (decide ((⟨a, b⟩ : Tie) ∈ E)) := by
  unfold slices_Contains_impl_Tie_impl_Tie.f slices_Index_impl_Tie_impl_Tie.f
  obtain ⟨r, hr, hi⟩ := indexTie_l0 a b E [] hb
  refine Ev.bind hr (Ev.val ?_)
  exact congrArg some (decide_eq_decide.2 hi)
end Go.Proofs.YtjkeagcenmmknaaDoor.P
