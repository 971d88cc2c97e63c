/- What comes of marking a net's ties. -/
import Derived.Test.YtbkdpnfjcnkoeaaGb
import Derived.Test.YtbkdpnfjcnkoeaaF30
namespace Go.Proofs.Ytbkdpnfjcnkoeaa.P
set_option linter.unusedSimpArgs false
set_option linter.unusedVariables false
open Go.RowKit Go.Proofs.YtbkdpnfjcnkoeaaW.PrintWords Go.Proofs.Ytbkdpnfjcnkoeaa.G
theorem setT_mid (pre : List S63) (z t : S63) (suf : List S63) : (pre ++ z :: suf).set ((pre.length : Int)).toNat t = pre ++ t :: suf := by simp
theorem rdM_mid (pre : List S63) (t : S63) (suf : List S63) : rd_T63 (pre ++ t :: suf) (pre.length : Int) = t := by
  unfold rd_T63; exact getD_mid pre t suf _
theorem markTieS_l0 : ∀ (suf pre : List S63) (x : Int), ((pre ++ suf).length : Int) ≤ 1048576 → 0 ≤ x → x + 2 * (suf.length : Int) ≤ 4000000000 →
    ∃ l, Ev (fun k => laws_markTieS.l0 k (pre ++ suf) x (pre.length : Int)) (x + 2 * suf.length, l) := by
  intro suf
  induction suf with
  | nil =>
    intro pre x hb h0 h1
    refine ⟨pre ++ [], Ev.step (fun k => by simp only [laws_markTieS.l0, nlt_end, if_false] <;> exact rfl) (Ev.val (by simp))⟩
  | cons t suf ih =>
    intro pre x hb h0 h1
    have hb' : ((pre ++ t :: suf).length : Int) < big := by unfold big; omega
    have hp : (pre.length : Int) < big := len_mid hb'
    simp only [List.length_cons] at h1
    have w1 : wrap64 (x + 1) = x + 1 := w64 (by omega) (by omega)
    have w2 : wrap64 (x + 1 + 1) = x + 2 := by rw [w64 (by omega) (by omega)]; omega
    obtain ⟨l, hl⟩ := ih (pre ++ [(⟨x, x + 1⟩ : S63)]) (x + 2) (by rw [List.length_append, List.length_append] at *; simp at hb ⊢; omega) (by omega) (by omega)
    refine ⟨l, ?_⟩
    refine Ev.step (fun k => by simp only [laws_markTieS.l0, lt_mid, nn, if_true, Option.bind_some, rdM_mid, setT_mid, w1, w2, w_succ (t := t) hp] <;> exact rfl) ?_
    have e1 : ((pre ++ [t]).length : Int) = ((pre ++ [(⟨x, x + 1⟩ : S63)]).length : Int) := by simp
    rw [app_one pre (⟨x, x + 1⟩ : S63) suf, e1]
    refine Ev.eq hl ?_
    simp only [List.length_cons, Prod.mk.injEq, and_true]
    omega
theorem markNet_ev (n : Int) (E : List S63) (hE : (E.length : Int) ≤ 1048576) : ∃ l, Ev (fun k => laws_markNet.f k n E 1) (1 + 2 * (E.length : Int), l) := by
  unfold laws_markNet.f laws_markTieS.f
  obtain ⟨l, hl⟩ := markTieS_l0 E [] 1 hE (by omega) (by omega)
  exact ⟨l, Ev.bind hl (Ev.val rfl)⟩
end Go.Proofs.Ytbkdpnfjcnkoeaa.P
