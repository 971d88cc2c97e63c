/- FnTrailOf, the plain part. -/
import Derived.Test.YtbkdpnfjcnkoeaaBtok
import Derived.Test.YtbkdpnfjcnkoeaaBtof
import Derived.Test.YtbkdpnfjcnkoeaaBdtf
import Derived.Test.YtbkdpnfjcnkoeaaBints
import Derived.Test.YtbkdpnfjcnkoeaaF37
namespace Go.Proofs.Ytbkdpnfjcnkoeaa.P
set_option linter.unusedSimpArgs false
set_option linter.unusedVariables false
open Go.RowKit Go.Proofs.YtbkdpnfjcnkoeaaW.PrintWords Go.Proofs.Ytbkdpnfjcnkoeaa.G
theorem loInts_l0 : ∀ (suf p : List Int), ((p ++ suf).length : Int) < big → Ev (fun k => laws_loInts.l0 k (p ++ suf) (p ++ suf) (p.length : Int)) true := by
  intro suf
  induction suf with
  | nil =>
    intro p hb
    exact Ev.step (fun k => by simp only [laws_loInts.l0, nlt_end, if_false] <;> exact rfl) (Ev.val rfl)
  | cons t suf ih =>
    intro p hb
    have hp : (p.length : Int) < big := len_mid hb
    refine Ev.step (fun k => by simp only [laws_loInts.l0, lt_mid, nn, if_true, w_succ (t := t) hp] <;> exact rfl) ?_
    rw [app_one p t suf]
    exact ih (p ++ [t]) (len_app hb)
theorem loInts_refl (l : List Int) (h : (l.length : Int) < big) : Ev (fun k => laws_loInts.f k l l) true := by
  unfold laws_loInts.f
  simp only [if_true]
  exact loInts_l0 l [] h
theorem tr_ok {n : Int} {E : List Tie} {a : Int} {r : List Int} (h : trailCan n E a) (hr : Tr n E a r) : trailOk n E (a :: r) := by
  obtain ⟨h1, h2⟩ := tr_cuts hr (asc_nodup h.1.2.2.2)
  exact ⟨h.1, by simp [h2], ties_knots h.1.2.2.1 r a h.2.1 (cuts_iff.1 h1).1, h1⟩
theorem FnTrailOf_pure (l : List Int) (_hl : l.length ≤ 9223372036854775807) (h : ∀ x ∈ l, 0 ≤ x ∧ x ≤ 255) : ∃ k, laws_FnTrailOf.f k l = some true := by
  refine Ev.rounds ?_
  unfold laws_FnTrailOf.f
  by_cases d : (l.length : Int) > 1048576
  · simp only [if_pos d]; exact Ev.val rfl
  simp only [if_neg d]
  obtain ⟨n, E, a, d1, hE⟩ := drawTrailOf_ev l h
  obtain ⟨row, t, s1, s2, hrl, ht, hf⟩ := tof_both n a E (by unfold big; omega)
  refine Ev.bind d1 (Ev.bind s1 (Ev.bind s2 ?_))
  simp only [bne_self_eq_false, Bool.false_eq_true, if_false]
  refine Ev.bind (loInts_refl row (by unfold big; omega)) ?_
  simp only [if_true]
  cases t with
  | true =>
    obtain ⟨hc, r, hrow, hr⟩ := ht rfl
    subst hrow
    simp only [if_true]
    have i := trailImpl n E (a :: r) (by omega) (by omega)
    rw [decide_eq_true (tr_ok hc hr)] at i
    refine Ev.bind i ?_
    have g : (0 : Int) < ((a :: r).length : Int) := by rw [List.length_cons]; omega
    simp only [if_true, if_pos g]
    exact Ev.val (by simp [rd])
  | false =>
    obtain ⟨_, hrow⟩ := hf rfl
    subst hrow
    simp only [Bool.false_eq_true, if_false]
    exact Ev.val (by simp)
end Go.Proofs.Ytbkdpnfjcnkoeaa.P
