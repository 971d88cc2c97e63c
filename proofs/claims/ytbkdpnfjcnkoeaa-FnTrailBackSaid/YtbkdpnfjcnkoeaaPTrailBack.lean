/- FnTrailBack, the plain part. -/
import Derived.Test.YtbkdpnfjcnkoeaaBtok
import Derived.Test.YtbkdpnfjcnkoeaaBdtk
import Derived.Test.YtbkdpnfjcnkoeaaGr
import Derived.Test.YtbkdpnfjcnkoeaaF34
namespace Go.Proofs.Ytbkdpnfjcnkoeaa.P
set_option linter.unusedSimpArgs false
set_option linter.unusedVariables false
open Go.RowKit Go.Proofs.YtbkdpnfjcnkoeaaW.PrintWords Go.Proofs.Ytbkdpnfjcnkoeaa.G
theorem back_l0 : ∀ (rev suf out : List Int), ((rev.reverse ++ suf).length : Int) ≤ 1048576 → out.length + rev.length ≤ 1048576 →
    Ev (fun k => laws_loBack.l0 k (rev.reverse ++ suf) out ((rev.length : Int) - 1)) (out ++ rev) := by
  intro rev
  induction rev with
  | nil =>
    intro suf out hb ho
    have c : ¬ ((([] : List Int).length : Int) - 1 ≥ 0) := by simp
    exact Ev.step (fun k => by simp only [laws_loBack.l0, if_neg c] <;> exact rfl) (Ev.val (by simp))
  | cons t rev ih =>
    intro suf out hb ho
    have e1 : (t :: rev).reverse ++ suf = rev.reverse ++ t :: suf := by simp
    rw [e1] at hb ⊢
    have e2 : (((t :: rev).length : Int) - 1) = (rev.reverse.length : Int) := by simp
    have c : (rev.reverse.length : Int) ≥ 0 := by omega
    have o8 : out.length < 17592186044416 := by simp at ho; omega
    have hr : (rev.reverse.length : Int) ≤ 1048576 := by simp at ho ⊢; omega
    have w : wrap64 ((rev.reverse.length : Int) - 1) = (rev.length : Int) - 1 := by rw [w64 (by omega) (by omega)]; simp
    have e := ih (t :: suf) (out ++ [t]) hb (by simp at ho ⊢; omega)
    rw [e2]
    refine Ev.step (fun k => by simp only [laws_loBack.l0, if_pos c, lt_mid, nn, if_true, rd_mid, if_pos o8, w] <;> exact rfl) ?_
    refine Ev.eq e ?_
    simp
theorem back_ev (row : List Int) (h : row.length ≤ 200) : Ev (fun k => laws_loBack.f k row) row.reverse := by
  unfold laws_loBack.f
  have e := back_l0 row.reverse [] [] (by simp; omega) (by simp; omega)
  rw [w64 (by omega) (by omega)]
  simp only [List.reverse_reverse, List.append_nil, List.length_reverse, List.nil_append] at e
  exact e
theorem FnTrailBack_pure (l : List Int) (_hl : l.length ≤ 9223372036854775807) (h : ∀ x ∈ l, 0 ≤ x ∧ x ≤ 255) : ∃ k, laws_FnTrailBack.f k l = some true := by
  refine Ev.rounds ?_
  unfold laws_FnTrailBack.f
  by_cases d : (l.length : Int) > 1048576
  · simp only [if_pos d]; exact Ev.val rfl
  simp only [if_neg d]
  obtain ⟨n, E, row, d1, hE, hr⟩ := drawTrailOk_ev l h
  have s := trailSpec n E row (by omega) (by omega)
  have i := trailImpl n E row (by omega) (by omega)
  have i2 := trailImpl n E row.reverse (by omega) (by simp; omega)
  refine Ev.bind d1 (Ev.bind i (Ev.bind s ?_))
  simp only [beq_self_eq_true, if_true]
  refine Ev.bind (back_ev row hr) (Ev.bind i2 ?_)
  exact Ev.val (by simp [trailOk_reverse])
end Go.Proofs.Ytbkdpnfjcnkoeaa.P
