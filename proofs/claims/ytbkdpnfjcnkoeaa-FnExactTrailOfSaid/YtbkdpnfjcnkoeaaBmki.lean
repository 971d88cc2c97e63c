/- What comes of marking a row of numbers, and of asking for the marks. -/
import Derived.Test.YtbkdpnfjcnkoeaaGb
import Derived.Test.YtbkdpnfjcnkoeaaF30
namespace Go.Proofs.Ytbkdpnfjcnkoeaa.P
set_option linter.unusedSimpArgs false
set_option linter.unusedVariables false
open Go.RowKit Go.Proofs.YtbkdpnfjcnkoeaaW.PrintWords Go.Proofs.Ytbkdpnfjcnkoeaa.G
/-- numbers one behind the other, as many as there are -/
def marks : Int → List Int → List Int
  | _, [] => []
  | x, _ :: r => x :: marks (x + 1) r
theorem marks_len : ∀ (l : List Int) (x : Int), (marks x l).length = l.length
  | [], _ => rfl
  | _ :: r, x => by simp [marks, marks_len r]
theorem setI_mid (pre : List Int) (z t : Int) (suf : List Int) : (pre ++ z :: suf).set ((pre.length : Int)).toNat t = (pre ++ [t]) ++ suf := by simp
theorem markIntS_l0 : ∀ (suf pre : List Int) (x : Int), ((pre ++ suf).length : Int) ≤ 1048576 → 0 ≤ x → x + (suf.length : Int) ≤ 4000000000 →
    Ev (fun k => laws_markIntS.l0 k (pre ++ suf) x (pre.length : Int)) (x + suf.length, pre ++ marks x suf) := by
  intro suf
  induction suf with
  | nil =>
    intro pre x hb h0 h1
    refine Ev.step (fun k => by simp only [laws_markIntS.l0, nlt_end, if_false] <;> exact rfl) (Ev.val (by simp [marks]))
  | cons t suf ih =>
    intro pre x hb h0 h1
    have hb' : ((pre ++ t :: suf).length : Int) < big := by unfold big; omega
    have hp : (pre.length : Int) < big := len_mid hb'
    simp only [List.length_cons] at h1
    have w1 : wrap64 (x + 1) = x + 1 := w64 (by omega) (by omega)
    refine Ev.step (fun k => by simp only [laws_markIntS.l0, lt_mid, nn, if_true, setI_mid, w1, w_succ (t := x) hp] <;> exact rfl) ?_
    refine Ev.eq (ih (pre ++ [x]) (x + 1) (by rw [List.length_append, List.length_append] at *; simp at hb ⊢; omega) (by omega) (by omega)) ?_
    simp only [marks, List.append_assoc, List.cons_append, List.nil_append, List.length_cons, Prod.mk.injEq, and_true]
    omega
theorem heldIntS_l0 : ∀ (suf pre : List Int) (x : Int), ((pre ++ suf).length : Int) ≤ 1048576 → 0 ≤ x → x + (suf.length : Int) ≤ 4000000000 →
    Ev (fun k => laws_heldIntS.l0 k (pre ++ marks x suf) x (pre.length : Int)) (x + suf.length) := by
  intro suf
  induction suf with
  | nil =>
    intro pre x hb h0 h1
    refine Ev.step (fun k => by simp only [laws_heldIntS.l0, marks, nlt_end, if_false] <;> exact rfl) (Ev.val (by simp))
  | cons t suf ih =>
    intro pre x hb h0 h1
    have hp : (pre.length : Int) < big := by rw [List.length_append] at hb; unfold big; omega
    simp only [List.length_cons] at h1
    have w1 : wrap64 (x + 1) = x + 1 := w64 (by omega) (by omega)
    refine Ev.step (fun k => by simp only [laws_heldIntS.l0, marks, lt_mid, nn, if_true, rd_mid, w1, w_succ (t := x) hp] <;> exact rfl) ?_
    rw [app_one pre x (marks (x + 1) suf)]
    refine Ev.eq (ih (pre ++ [x]) (x + 1) (by rw [List.length_append, List.length_append] at *; simp at hb ⊢; omega) (by omega) (by omega)) ?_
    simp only [List.length_cons]
    omega
theorem markIntS_ev (l : List Int) (hl : (l.length : Int) ≤ 1048576) : Ev (fun k => laws_markIntS.f k l 1) (1 + (l.length : Int), marks 1 l) := by
  unfold laws_markIntS.f
  exact markIntS_l0 l [] 1 hl (by omega) (by omega)
theorem heldIntS_ev (l : List Int) (hl : (l.length : Int) ≤ 1048576) : Ev (fun k => laws_heldIntS.f k (marks 1 l) 1) (1 + (l.length : Int)) := by
  unfold laws_heldIntS.f
  exact heldIntS_l0 l [] 1 hl (by omega) (by omega)
end Go.Proofs.Ytbkdpnfjcnkoeaa.P
