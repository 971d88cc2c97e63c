/- The tie of two knots, and whether a net has it: as the reference has it. -/
import Derived.Test.YtddadihobjinhaaGb
import Derived.Test.YtddadihobjinhaaF4
namespace Go.Proofs.Ytddadihobjinhaa.G
def tieOf (a b : Int) : Tie := if a < b then ⟨a, b⟩ else ⟨b, a⟩
theorem tieOf_comm (a b : Int) : tieOf a b = tieOf b a := by
  unfold tieOf
  rcases Int.lt_trichotomy a b with h | h | h
  · rw [if_pos h, if_neg (by omega)]
  · subst h; rfl
  · rw [if_neg (by omega), if_pos h]
theorem tieOf_inr {n : Int} {t : Tie} (h : inr n t) : tieOf t.f0 t.f1 = t := by
  unfold tieOf; rw [if_pos h.2.1]
theorem tieOf_lt {a b : Int} (h : a < b) : tieOf a b = ⟨a, b⟩ := by unfold tieOf; rw [if_pos h]
theorem tieOf_ge {a b : Int} (h : ¬ a < b) : tieOf a b = ⟨b, a⟩ := by unfold tieOf; rw [if_neg h]
end Go.Proofs.Ytddadihobjinhaa.G
namespace Go.Proofs.Ytddadihobjinhaa.P
set_option linter.unusedSimpArgs false
set_option linter.unusedVariables false
open Go.RowKit Go.Proofs.YtddadihobjinhaaW.PrintWords Go.Proofs.Ytddadihobjinhaa.G
theorem rdH_mid (pre : List S53) (t : S53) (suf : List S53) : rd_T53 (pre ++ t :: suf) (pre.length : Int) = t := by
  unfold rd_T53; exact getD_mid pre t suf _
theorem l1Tie_eq (a b : Int) : spec_l1Tie.f a b = some ((tieOf a b).f0, (tieOf a b).f1) := by
  unfold spec_l1Tie.f tieOf
  by_cases h : a < b <;> simp [h]
theorem tie_beq (s t : Tie) : (s.f0 == t.f0 && (s.f1 == t.f1)) = decide (s = t) := by
  obtain ⟨a, b⟩ := s
  obtain ⟨c, d⟩ := t
  simp only [Tie.mk.injEq]
  by_cases h : a = c <;> by_cases k : b = d <;> simp [h, k]
theorem l1Has_l0 (n a b : Int) : ∀ (suf p : List S53), ((p ++ suf).length : Int) < big →
    Ev (fun k => spec_l1Has.l0 k a b (p.length : Int) n (p ++ suf)) (decide (tieOf a b ∈ suf)) := by
  intro suf
  induction suf with
  | nil =>
    intro p hb
    refine Ev.step (fun k => by simp only [spec_l1Has.l0, nlt_end, if_false] <;> exact rfl) ?_
    exact Ev.val (congrArg some (decide_eq_false (by simp)).symm)
  | cons t suf ih =>
    intro p hb
    have hp : (p.length : Int) < big := len_mid hb
    refine Ev.step (fun k => by simp only [spec_l1Has.l0, lt_mid, nn, if_true, rdH_mid, w_succ (t := t) hp, l1Tie_eq, Option.bind_some, tie_beq, decide_eq_true_eq] <;> exact rfl) ?_
    by_cases c : t = tieOf a b
    · simp only [if_pos c]
      exact Ev.val (congrArg some (decide_eq_true (by simp [c])).symm)
    · simp only [if_neg c]
      rw [app_one p t suf]
      refine Ev.eq (ih (p ++ [t]) (len_app hb)) ?_
      rw [decide_eq_decide]
      have : ¬ tieOf a b = t := fun e => c e.symm
      simp [this]
theorem l1Has_ev (n a b : Int) (E : List S53) (hb : (E.length : Int) < big) : Ev (fun k => spec_l1Has.f k n E a b) (decide (tieOf a b ∈ E)) := by
  unfold spec_l1Has.f
  exact l1Has_l0 n a b E [] hb
end Go.Proofs.Ytddadihobjinhaa.P
