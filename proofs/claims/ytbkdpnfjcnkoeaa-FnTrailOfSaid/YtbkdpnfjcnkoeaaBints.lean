/- What the printed functions of the laws come to on rows of numbers: copies, and comparisons. -/
import Derived.Test.YtbkdpnfjcnkoeaaGb
import Derived.Test.YtbkdpnfjcnkoeaaF24
import Derived.Test.YtbkdpnfjcnkoeaaF28
namespace Go.Proofs.Ytbkdpnfjcnkoeaa.P
set_option linter.unusedSimpArgs false
set_option linter.unusedVariables false
open Go.RowKit Go.Proofs.YtbkdpnfjcnkoeaaW.PrintWords Go.Proofs.Ytbkdpnfjcnkoeaa.G

theorem set_mid' {α : Type} (pre : List α) (z t : α) (suf : List α) : (pre ++ z :: suf).set ((pre.length : Int)).toNat t = (pre ++ [t]) ++ suf := by
  simp [List.set_append]
theorem toIntS_l0 : ∀ (suf pre : List Int), ((pre ++ suf).length : Int) < big →
    Ev (fun k => laws_toIntS.l0 k (pre ++ suf) (pre ++ List.replicate suf.length 0) (pre.length : Int)) (pre ++ suf) := by
  intro suf
  induction suf with
  | nil =>
    intro pre hb
    refine Ev.step (fun k => by simp only [laws_toIntS.l0, nlt_end, if_false] <;> exact rfl) ?_
    exact Ev.val (by simp)
  | cons t suf ih =>
    intro pre hb
    have hp : (pre.length : Int) < big := len_mid hb
    have l2 : (pre.length : Int) < ((pre ++ List.replicate (t :: suf).length (0 : Int)).length : Int) := by
      rw [List.length_append, List.length_replicate, List.length_cons]; omega
    refine Ev.step (fun k => by simp only [laws_toIntS.l0, lt_mid, nn, if_true, rd_mid, w_succ (t := t) hp, l2] <;> exact rfl) ?_
    have e : (pre ++ List.replicate (t :: suf).length (0 : Int)).set ((pre.length : Int)).toNat t = (pre ++ [t]) ++ List.replicate suf.length 0 := set_mid' pre _ t _
    rw [e, app_one pre t suf]
    exact ih (pre ++ [t]) (len_app hb)
theorem toIntS_ev (l : List Int) (hb : (l.length : Int) ≤ 1048576) : Ev (fun k => laws_toIntS.f k l) l := by
  unfold laws_toIntS.f
  have h1 : ((l.length : Int)).toNat ≤ 35184372088832 := by omega
  simp only [nn, if_true, h1, Int.toNat_natCast]
  have h2 : l.length ≤ 35184372088832 := by omega
  simp only [h2, if_true]
  exact toIntS_l0 l [] (by unfold big; simp; omega)
theorem eqIntS_l0 : ∀ (suf p1 p2 : List Int), p1.length = p2.length → ((p1 ++ suf).length : Int) < big →
    Ev (fun k => laws_eqIntS.l0 k (p1 ++ suf) (p2 ++ suf) (p1.length : Int)) true := by
  intro suf
  induction suf with
  | nil =>
    intro p1 p2 e hb
    refine Ev.step (fun k => by simp only [laws_eqIntS.l0, nlt_end, if_false] <;> exact rfl) ?_
    exact Ev.val rfl
  | cons t suf ih =>
    intro p1 p2 e hb
    have hp : (p1.length : Int) < big := len_mid hb
    have l2 : (p1.length : Int) < ((p2 ++ t :: suf).length : Int) := by rw [e]; exact lt_mid _ _ _
    have r2 : rd (p2 ++ t :: suf) (p1.length : Int) = t := by rw [e]; exact rd_mid _ _ _
    refine Ev.step (fun k => by simp only [laws_eqIntS.l0, lt_mid, nn, if_true, rd_mid, w_succ (t := t) hp, l2, r2] <;> exact rfl) ?_
    rw [app_one p1 t suf, app_one p2 t suf]
    exact ih (p1 ++ [t]) (p2 ++ [t]) (by simp [e]) (len_app hb)
theorem eqIntS_refl (l : List Int) (hb : (l.length : Int) < big) : Ev (fun k => laws_eqIntS.f k l l) true := by
  unfold laws_eqIntS.f
  simp only [if_true]
  exact eqIntS_l0 l [] [] rfl hb
end Go.Proofs.Ytbkdpnfjcnkoeaa.P
