/- FnTrailEnd, the plain part. -/
import Derived.Test.YtbkdpnfjcnkoeaaBtok
import Derived.Test.YtbkdpnfjcnkoeaaBdtk
import Derived.Test.YtbkdpnfjcnkoeaaBtcan
import Derived.Test.YtbkdpnfjcnkoeaaBdeg
import Derived.Test.YtbkdpnfjcnkoeaaGn
import Derived.Test.YtbkdpnfjcnkoeaaF40
namespace Go.Proofs.Ytbkdpnfjcnkoeaa.P
set_option linter.unusedSimpArgs false
set_option linter.unusedVariables false
open Go.RowKit Go.Proofs.YtbkdpnfjcnkoeaaW.PrintWords Go.Proofs.Ytbkdpnfjcnkoeaa.G
theorem rd_lastOf : ∀ (r : List Int) (a : Int) (p : List Int), rd (p ++ a :: r) ((p.length : Int) + (r.length : Int)) = lastOf a r
  | [], a, p => by
    show rd (p ++ a :: []) ((p.length : Int) + 0) = a
    rw [Int.add_zero]; exact rd_mid p a []
  | b :: r, a, p => by
    have := rd_lastOf r b (p ++ [a])
    rw [← app_one, List.length_append, List.length_singleton] at this
    show rd (p ++ a :: b :: r) _ = lastOf b r
    rw [← this]
    congr 1
    simp only [List.length_cons]; omega
theorem end_l0 (n a : Int) (r : List Int) (E : List S63) (c : trailOk n E (a :: r)) (hE : E.length ≤ 50) (hr : (a :: r).length ≤ 200) : ∀ (d : Nat) (i : Int), 0 ≤ i → i + d = n →
    Ev (fun k => laws_FnTrailEnd.l0 k (a :: r) (odds E i : Int) i n E) true := by
  have h8 := c.1.2.1
  intro d
  induction d with
  | zero =>
    intro i h0 hi
    have hi' : i = n := by omega
    subst hi'
    have c0 : ¬ i < i := by omega
    have g0 : (0 : Int) < ((a :: r).length : Int) := by rw [List.length_cons]; omega
    have w : wrap64 (((a :: r).length : Int) - 1) = (r.length : Int) := by
      rw [List.length_cons] at *
      rw [w64 (by omega) (by omega)]; omega
    have g1 : (0 : Int) ≤ (r.length : Int) := by omega
    have g2 : (r.length : Int) < ((a :: r).length : Int) := by rw [List.length_cons]; omega
    have r0 : rd (a :: r) 0 = a := rfl
    have r1 : rd (a :: r) (r.length : Int) = lastOf a r := by
      have := rd_lastOf r a []
      simpa using this
    have q : (((odds E i : Int) == 0) == (a == lastOf a r)) = true := by
      have := (trail_odds c).1
      by_cases e : a = lastOf a r
      · have o := this.2 e
        rw [o, ← e]; simp
      · have o : ¬ odds E i = 0 := fun q => e (this.1 q)
        have o' : ((odds E i : Int) == 0) = false := beq_eq_false_iff_ne.2 (by omega)
        rw [o', beq_eq_false_iff_ne.2 e]; rfl
    refine Ev.step (fun k => by simp only [laws_FnTrailEnd.l0, if_neg c0, if_pos g0, w, if_pos g1, if_pos g2, r0, r1, if_pos q] <;> exact rfl) ?_
    obtain ⟨b, b1, b2⟩ := tcanImpl i a E (by unfold big; omega)
    have : b = true := b2.2 (trail_can c)
    subst this
    exact Ev.bind b1 (Ev.val rfl)
  | succ d ih =>
    intro i h0 hi
    have c0 : i < n := by omega
    have os := odds_succ (E := E) h0
    have ol : odds E i ≤ 8 := by
      have := odds_le E i.toNat
      rw [Int.toNat_of_nonneg h0] at this
      omega
    have w : wrap64 ((odds E i : Int) + Int.tmod (deg E i : Int) 2) = (odds E (i + 1) : Int) := by
      rw [tmod2n, w64 (by omega) (by omega), os]; omega
    refine Ev.step (fun k => by simp only [laws_FnTrailEnd.l0, if_pos c0, w64 (x := i + 1) (by omega) (by omega)] <;> exact rfl) ?_
    refine Ev.bind (many_ev n i E (by omega)) ?_
    rw [w]
    exact ih (i + 1) (by omega) (by omega)
theorem FnTrailEnd_pure (l : List Int) (_hl : l.length ≤ 9223372036854775807) (h : ∀ x ∈ l, 0 ≤ x ∧ x ≤ 255) : ∃ k, laws_FnTrailEnd.f k l = some true := by
  refine Ev.rounds ?_
  unfold laws_FnTrailEnd.f
  by_cases d : (l.length : Int) > 1048576
  · simp only [if_pos d]; exact Ev.val rfl
  simp only [if_neg d]
  obtain ⟨n, E, row, d1, hE, hr⟩ := drawTrailOk_ev l h
  have s := trailSpec n E row (by omega) (by omega)
  have i := trailImpl n E row (by omega) (by omega)
  have bb : (decide (trailOk n E row) != decide (trailOk n E row)) = false := by simp
  refine Ev.bind d1 (Ev.bind i (Ev.bind s ?_))
  simp only [bb, Bool.false_eq_true, if_false]
  by_cases c : trailOk n E row
  · rw [decide_eq_true c] at s ⊢
    refine Ev.step (fun k => by simp only [laws_FnTrailEnd.j0, Bool.not_true, Bool.false_eq_true, if_false] <;> exact rfl) ?_
    match row, c, hr with
    | [], c, _ => exact absurd c.2.1 (by simp)
    | a :: r, c, hr =>
      have e0 : (0 : Int) = (odds E 0 : Int) := by simp [odds, knots]
      have := end_l0 n a r E c hE hr n.toNat 0 (Int.le_refl 0) (by have := c.1.1; omega)
      rw [← e0] at this
      exact this
  · rw [decide_eq_false c] at s ⊢
    refine Ev.step (fun k => by simp only [laws_FnTrailEnd.j0, Bool.not_false, if_true] <;> exact rfl) ?_
    exact Ev.bind s (Ev.val rfl)
end Go.Proofs.Ytbkdpnfjcnkoeaa.P
