/- FnTrailRing, the plain part. -/
import Derived.Test.YtbkdpnfjcnkoeaaBtok
import Derived.Test.YtbkdpnfjcnkoeaaBdtk
import Derived.Test.YtbkdpnfjcnkoeaaBparts
import Derived.Test.YtbkdpnfjcnkoeaaGn
import Derived.Test.YtbkdpnfjcnkoeaaF38
import Derived.Test.YtbkdpnfjcnkoeaaF39
namespace Go.Proofs.Ytbkdpnfjcnkoeaa.P
set_option linter.unusedSimpArgs false
set_option linter.unusedVariables false
open Go.RowKit Go.Proofs.YtbkdpnfjcnkoeaaW.PrintWords Go.Proofs.Ytbkdpnfjcnkoeaa.G
theorem rdB_mid (pre : List S63) (t : S63) (suf : List S63) : rd_T63 (pre ++ t :: suf) (pre.length : Int) = t := by
  unfold rd_T63; exact getD_mid pre t suf _
theorem bridges_l0 (n : Int) (E : List S63) (hE : ok n E) (hc : ∀ t ∈ E, Conn (cut E t) t.f0 t.f1) : ∀ (suf p : List S63), p ++ suf = E →
    Ev (fun k => impl_Net_bridges.l0 k [] (p ++ suf) (E.length : Int) (p.length : Int) n E) [] := by
  have hEl := ok_len hE
  intro suf
  induction suf with
  | nil =>
    intro p he
    have c : ¬ (p.length : Int) < (E.length : Int) := by rw [← he]; simp
    exact Ev.step (fun k => by simp only [impl_Net_bridges.l0, if_neg c] <;> exact rfl) (Ev.val rfl)
  | cons t suf ih =>
    intro p he
    have ht : t ∈ E := by rw [← he]; simp
    have hr := hE.2.2.1 t ht
    unfold inr at hr
    have c : (p.length : Int) < (E.length : Int) := by rw [← he]; exact lt_mid p t suf
    have hp : (p.length : Int) < big := by unfold big; omega
    refine Ev.step (fun k => by simp only [impl_Net_bridges.l0, if_pos c, lt_mid, nn, if_true, rdB_mid, w_succ (t := t) hp] <;> exact rfl) ?_
    refine Ev.bind (lessOne_ev n E t (by omega)) ?_
    obtain ⟨b, b1, b2⟩ := joined_ev n (cut E t) (ok_cut _ hE) t.f0 t.f1 (by omega) (by omega)
    refine Ev.bind b1 ?_
    have : b = true := b2.2 (hc t ht)
    subst this
    simp only [if_true]
    rw [app_one p t suf]
    exact ih (p ++ [t]) (by rw [← he]; simp)
theorem rd_lastOf : ∀ (r : List Int) (a : Int) (p : List Int), rd (p ++ a :: r) ((p.length : Int) + (r.length : Int)) = lastOf a r
  | [], a, p => by
    show rd (p ++ a :: []) ((p.length : Int) + 0) = a
    rw [Int.add_zero]; exact rd_mid p a []
  | b :: r, a, p => by
    have := rd_lastOf r b (p ++ [a])
    rw [← app_one, List.length_append, List.length_singleton] at this
    show rd (p ++ a :: b :: r) _ = lastOf b r
    rw [← this]
    congr 1
    simp only [List.length_cons]; omega
theorem FnTrailRing_pure (l : List Int) (_hl : l.length ≤ 9223372036854775807) (h : ∀ x ∈ l, 0 ≤ x ∧ x ≤ 255) : ∃ k, laws_FnTrailRing.f k l = some true := by
  refine Ev.rounds ?_
  unfold laws_FnTrailRing.f
  by_cases d : (l.length : Int) > 1048576
  · simp only [if_pos d]; exact Ev.val rfl
  simp only [if_neg d]
  obtain ⟨n, E, row, d1, hE, hr⟩ := drawTrailOk_ev l h
  have s := trailSpec n E row (by omega) (by omega)
  have i := trailImpl n E row (by omega) (by omega)
  have same : Ev (fun k => laws_FnTrailRing.j0 k row (decide (trailOk n E row)) true n E) true := by
    refine Ev.step (fun k => by simp only [laws_FnTrailRing.j0, if_true] <;> exact rfl) ?_
    exact Ev.bind s (Ev.val (by simp))
  refine Ev.bind d1 (Ev.bind i (Ev.bind s ?_))
  simp only [bne_self_eq_false, Bool.false_eq_true, if_false]
  by_cases c : trailOk n E row
  · rw [decide_eq_true c] at same ⊢
    simp only [if_true]
    match row, c, hr, same with
    | [], c, _, _ => exact absurd c.2.1 (by simp)
    | a :: r, c, hr, same =>
      have g0 : (0 : Int) < ((a :: r).length : Int) := by rw [List.length_cons]; omega
      have hr' : r.length + 1 ≤ 200 := by simpa using hr
      have w : wrap64 (((a :: r).length : Int) - 1) = (r.length : Int) := by
        rw [List.length_cons, w64 (by omega) (by omega)]; omega
      have g1 : (0 : Int) ≤ (r.length : Int) := by omega
      have g2 : (r.length : Int) < ((a :: r).length : Int) := by rw [List.length_cons]; omega
      have r0 : rd (a :: r) 0 = a := rfl
      have r1 : rd (a :: r) (r.length : Int) = lastOf a r := by
        have := rd_lastOf r a []
        simpa using this
      simp only [if_pos g0, w, if_pos g1, if_pos g2, r0, r1]
      by_cases e : a = lastOf a r
      · have e' : (a != lastOf a r) = false := by rw [← e]; simp
        rw [e']
        refine Ev.step (fun k => by simp only [laws_FnTrailRing.j0, Bool.false_eq_true, if_false] <;> exact rfl) ?_
        have b : Ev (fun k => impl_BridgeList.f k n E) [] := by
          unfold impl_BridgeList.f
          refine Ev.bind (implOk n E (by unfold big; omega)) ?_
          simp only [c.1, decide_true, if_true]
          refine Ev.bind ?_ (Ev.val rfl)
          unfold impl_Net_bridges.f
          exact bridges_l0 n E c.1 (trail_ring c e) E [] rfl
        exact Ev.bind b (Ev.val rfl)
      · have e' : (a != lastOf a r) = true := bne_iff_ne.2 e
        rw [e']
        exact same
  · rw [decide_eq_false c] at same ⊢
    simp only [Bool.false_eq_true, if_false]
    exact same
end Go.Proofs.Ytbkdpnfjcnkoeaa.P
