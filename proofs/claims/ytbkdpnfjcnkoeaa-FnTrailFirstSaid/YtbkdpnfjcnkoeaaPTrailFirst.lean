/- FnTrailFirst, the plain part. -/
import Derived.Test.YtbkdpnfjcnkoeaaBtok
import Derived.Test.YtbkdpnfjcnkoeaaBdtk
import Derived.Test.YtbkdpnfjcnkoeaaBtof
import Derived.Test.YtbkdpnfjcnkoeaaGn
import Derived.Test.YtbkdpnfjcnkoeaaF41
namespace Go.Proofs.Ytbkdpnfjcnkoeaa.G
set_option linter.unusedSimpArgs false
set_option linter.unusedVariables false
/-- the one does not stand ahead of the other -/
inductive Behind : List Int → List Int → Prop
  | nil : Behind [] []
  | more {x y : Int} {r s : List Int} : y < x → r.length = s.length → Behind (x :: r) (y :: s)
  | same {x : Int} {r s : List Int} : Behind r s → Behind (x :: r) (x :: s)
theorem Behind.len {r s : List Int} (h : Behind r s) : r.length = s.length := by
  induction h with
  | nil => rfl
  | more _ h => simp [h]
  | same _ ih => simp [ih]
theorem tr_behind {n : Int} {X : List Tie} {a : Int} {f : List Int} (h : Tr n X a f) : ∀ r, trailOk n X (a :: r) → Behind r f := by
  induction h with
  | nil a =>
    intro r hr
    have : r.length = 0 := by have := hr.2.1; simpa using this
    rw [List.length_eq_zero_iff.1 this]
    exact .nil
  | @cons X a i f hi hf ih =>
    intro r hr
    match r, hr with
    | [], hr =>
      have q := hr.2.1
      have hp := List.length_pos_of_mem hi.goes.1
      simp only [List.length_cons, List.length_nil] at q
      omega
    | j :: r, hr =>
      obtain ⟨h1, h2⟩ := trailOk_tail hr
      have hle := hi.least j ⟨h1, trail_can h2⟩
      by_cases e : i = j
      · subst e
        exact .same (ih r h2)
      · refine .more (by omega) ?_
        have l1 := (tr_cuts hf (cut_nodup (asc_nodup hr.1.2.2.2) _)).2
        have l2 := hr.2.1
        have l3 := cut_len (asc_nodup hr.1.2.2.2) (tieOf a i)
        rw [if_pos hi.goes.1] at l3
        simp only [List.length_cons] at l2
        omega
end Go.Proofs.Ytbkdpnfjcnkoeaa.G
namespace Go.Proofs.Ytbkdpnfjcnkoeaa.P
set_option linter.unusedSimpArgs false
set_option linter.unusedVariables false
open Go.RowKit Go.Proofs.YtbkdpnfjcnkoeaaW.PrintWords Go.Proofs.Ytbkdpnfjcnkoeaa.G
theorem ahead_l0 {r s : List Int} (h : Behind r s) : ∀ (p : List Int), ((p ++ r).length : Int) < big → Ev (fun k => laws_loAhead.l0 k (p ++ r) (p ++ s) (p.length : Int)) false := by
  induction h with
  | nil =>
    intro p hb
    exact Ev.step (fun k => by simp only [laws_loAhead.l0, nlt_end, if_false] <;> exact rfl) (Ev.val rfl)
  | @more x y r s hxy hl =>
    intro p hb
    have c : ¬ x = y := by omega
    have c2 : ¬ x < y := by omega
    refine Ev.step (fun k => by simp only [laws_loAhead.l0, lt_mid, nn, if_true, rd_mid, if_neg c, decide_eq_false c2] <;> exact rfl) (Ev.val rfl)
  | @same x r s hrs ih =>
    intro p hb
    have hp : (p.length : Int) < big := len_mid hb
    refine Ev.step (fun k => by simp only [laws_loAhead.l0, lt_mid, nn, if_true, rd_mid, w_succ (t := x) hp] <;> exact rfl) ?_
    rw [app_one p x r, app_one p x s]
    exact ih (p ++ [x]) (len_app hb)
theorem FnTrailFirst_pure (l : List Int) (_hl : l.length ≤ 9223372036854775807) (h : ∀ x ∈ l, 0 ≤ x ∧ x ≤ 255) : ∃ k, laws_FnTrailFirst.f k l = some true := by
  refine Ev.rounds ?_
  unfold laws_FnTrailFirst.f
  by_cases d : (l.length : Int) > 1048576
  · simp only [if_pos d]; exact Ev.val rfl
  simp only [if_neg d]
  obtain ⟨n, E, row, d1, hE, hr⟩ := drawTrailOk_ev l h
  have s := trailSpec n E row (by omega) (by omega)
  have i := trailImpl n E row (by omega) (by omega)
  have bb : (decide (trailOk n E row) != decide (trailOk n E row)) = false := by simp
  refine Ev.bind d1 (Ev.bind i (Ev.bind s ?_))
  simp only [bb, Bool.false_eq_true, if_false]
  by_cases c : trailOk n E row
  · rw [decide_eq_true c] at s ⊢
    match row, c, hr with
    | [], c, _ => exact absurd c.2.1 (by simp)
    | a :: r, c, hr =>
      have g0 : (0 : Int) < ((a :: r).length : Int) := by rw [List.length_cons]; omega
      have r0 : rd (a :: r) 0 = a := rfl
      refine Ev.step (fun k => by simp only [laws_FnTrailFirst.j0, Bool.not_true, Bool.false_eq_true, if_false, if_pos g0, r0] <;> exact rfl) ?_
      obtain ⟨f, hf⟩ := tr_some (n := n) E.length (Nat.le_refl _) (trail_can c)
      refine Ev.bind (tofImpl_yes n a E f (trail_can c) hf) ?_
      simp only [if_true]
      have hb := tr_behind hf r c
      have e : Ev (fun k => laws_loAhead.f k (a :: r) (a :: f)) false := by
        unfold laws_loAhead.f
        have q : ((a :: r).length : Int) = ((a :: f).length : Int) := by simp [hb.len]
        simp only [if_pos q]
        exact ahead_l0 (.same hb) [] (by unfold big; simp at hr ⊢; omega)
      exact Ev.bind e (Ev.val rfl)
  · rw [decide_eq_false c] at s ⊢
    refine Ev.step (fun k => by simp only [laws_FnTrailFirst.j0, Bool.not_false, if_true] <;> exact rfl) ?_
    exact Ev.bind s (Ev.val rfl)
end Go.Proofs.Ytbkdpnfjcnkoeaa.P
