/- FnTrailOdd, the plain part. -/
import Derived.Test.YtbkdpnfjcnkoeaaBtcan
import Derived.Test.YtbkdpnfjcnkoeaaBdtc
import Derived.Test.YtbkdpnfjcnkoeaaBdeg
import Derived.Test.YtbkdpnfjcnkoeaaF32
namespace Go.Proofs.Ytbkdpnfjcnkoeaa.P
set_option linter.unusedSimpArgs false
set_option linter.unusedVariables false
open Go.RowKit Go.Proofs.YtbkdpnfjcnkoeaaW.PrintWords Go.Proofs.Ytbkdpnfjcnkoeaa.G
theorem odd_l0 (n a : Int) (E : List S63) (hE : E.length ≤ 50) (hn : n ≤ 8) (he : evenly n E a) : ∀ (d : Nat) (i : Int), 0 ≤ i → i + d = n →
    Ev (fun k => laws_FnTrailOdd.l0 k a (odds E i : Int) i n E) true := by
  intro d
  induction d with
  | zero =>
    intro i h0 hi
    have hi' : i = n := by omega
    subst hi'
    have c : ¬ i < i := by omega
    by_cases z : (odds E i : Int) = 0
    · exact Ev.step (fun k => by simp only [laws_FnTrailOdd.l0, if_neg c, if_pos z] <;> exact rfl) (Ev.val rfl)
    · have : odds E i = 2 ∧ deg E a % 2 = 1 := by
        rcases he with h | h
        · exact absurd (by omega) z
        · exact h
      have z2 : (odds E i : Int) = 2 := by omega
      refine Ev.step (fun k => by simp only [laws_FnTrailOdd.l0, if_neg c, if_neg z, if_pos z2] <;> exact rfl) ?_
      refine Ev.bind (many_ev i a E (by omega)) ?_
      exact Ev.val (by rw [tmod2n, this.2]; rfl)
  | succ d ih =>
    intro i h0 hi
    have c : i < n := by omega
    have os := odds_succ (E := E) h0
    have ol : odds E i ≤ 8 := by
      have := odds_le E i.toNat
      rw [Int.toNat_of_nonneg h0] at this
      omega
    have w : wrap64 ((odds E i : Int) + Int.tmod (deg E i : Int) 2) = (odds E (i + 1) : Int) := by
      rw [tmod2n, w64 (by omega) (by omega), os]; omega
    refine Ev.step (fun k => by simp only [laws_FnTrailOdd.l0, if_pos c, w64 (x := i + 1) (by omega) (by omega)] <;> exact rfl) ?_
    refine Ev.bind (many_ev n i E (by omega)) ?_
    rw [w]
    exact ih (i + 1) (by omega) (by omega)
theorem FnTrailOdd_pure (l : List Int) (_hl : l.length ≤ 9223372036854775807) (h : ∀ x ∈ l, 0 ≤ x ∧ x ≤ 255) : ∃ k, laws_FnTrailOdd.f k l = some true := by
  refine Ev.rounds ?_
  unfold laws_FnTrailOdd.f
  by_cases d : (l.length : Int) > 1048576
  · simp only [if_pos d]; exact Ev.val rfl
  simp only [if_neg d]
  obtain ⟨n, E, a, d1, hE⟩ := drawTrailCan_ev l h
  have hEb : (E.length : Int) < big := by unfold big; omega
  obtain ⟨b, b1, b2⟩ := tcanSpec n a E hEb
  obtain ⟨b', c1, c2⟩ := tcanImpl n a E hEb
  have hb : b' = b := by rw [Bool.eq_iff_iff]; rw [b2, c2]
  subst hb
  have bb : (b' != b') = false := by simp
  refine Ev.bind d1 (Ev.bind c1 (Ev.bind b1 ?_))
  simp only [bb, Bool.false_eq_true, if_false]
  cases b' with
  | false =>
    refine Ev.step (fun k => by simp only [laws_FnTrailOdd.j0, Bool.not_false, if_true] <;> exact rfl) ?_
    exact Ev.bind b1 (Ev.val rfl)
  | true =>
    have ht := b2.1 rfl
    refine Ev.step (fun k => by simp only [laws_FnTrailOdd.j0, Bool.not_true, Bool.false_eq_true, if_false] <;> exact rfl) ?_
    have e0 : (0 : Int) = (odds E 0 : Int) := by simp [odds, knots]
    have := odd_l0 n a E hE ht.1.2.1 ht.2.2.2 n.toNat 0 (Int.le_refl 0) (by have := ht.1.1; omega)
    rw [← e0] at this
    exact this
end Go.Proofs.Ytbkdpnfjcnkoeaa.P
