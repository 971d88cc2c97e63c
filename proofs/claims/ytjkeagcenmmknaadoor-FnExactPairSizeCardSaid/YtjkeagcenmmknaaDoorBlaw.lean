/- What the printed functions of the laws themselves come to: copies of what came in, and comparisons. -/
import Derived.Test.YtjkeagcenmmknaaDoorBok
import Derived.Test.YtjkeagcenmmknaaDoorF18
namespace Go.Proofs.YtjkeagcenmmknaaDoor.P
set_option linter.unusedSimpArgs false
set_option linter.unusedVariables false
open Go.RowKit Go.Proofs.YtjkeagcenmmknaaDoorW.PrintWords Go.Proofs.YtjkeagcenmmknaaDoor.G

theorem rdL_mid (pre : List S82) (t : S82) (suf : List S82) : rd_T82 (pre ++ t :: suf) (pre.length : Int) = t := by
  unfold rd_T82; exact getD_mid pre t suf _

theorem szNet_some (n : Int) (l : List S82) (a : Int) (h0 : 0 ≤ a) (h1 : a ≤ 1048576) (hl : l.length ≤ 9223372036854775807) :
    laws_szNet.f n l a = some (if a - (l.length : Int) < 0 then -1 else a - l.length) := by
  unfold laws_szNet.f laws_szTieS.f
  rw [w64 (by omega) (by omega)]
  by_cases c : a - (l.length : Int) < 0
  · simp [c]
  · simp [c]
theorem szTieS_some (l : List S82) (a : Int) (h0 : 0 ≤ a) (h1 : a ≤ 1048576) (hl : l.length ≤ 9223372036854775807) :
    laws_szTieS.f l a = some (if a - (l.length : Int) < 0 then -1 else a - l.length) := by
  unfold laws_szTieS.f
  rw [w64 (by omega) (by omega)]
  by_cases c : a - (l.length : Int) < 0
  · simp [c]
  · simp [c]

theorem set_mid {α : Type} (pre : List α) (z t : α) (suf : List α) : (pre ++ z :: suf).set ((pre.length : Int)).toNat t = (pre ++ [t]) ++ suf := by
  simp [List.set_append]
theorem toTieS_l0 : ∀ (suf pre : List S82), ((pre ++ suf).length : Int) < big →
    Ev (fun k => laws_toTieS.l0 k (pre ++ suf) (pre ++ List.replicate suf.length z51) (pre.length : Int)) (pre ++ suf) := by
  intro suf
  induction suf with
  | nil =>
    intro pre hb
    refine Ev.step (fun k => by simp only [laws_toTieS.l0, nlt_end, if_false] <;> exact rfl) ?_
    exact Ev.val (by simp)
  | cons t suf ih =>
    intro pre hb
    have hp : (pre.length : Int) < big := len_mid hb
    have l2 : (pre.length : Int) < ((pre ++ List.replicate (t :: suf).length z51).length : Int) := by
      rw [List.length_append, List.length_replicate, List.length_cons]; omega
    refine Ev.step (fun k => by simp only [laws_toTieS.l0, laws_toTie.f, lt_mid, nn, if_true, rdL_mid, w_succ (t := t) hp, l2, Option.bind_some] <;> exact rfl) ?_
    have e : (pre ++ List.replicate (t :: suf).length z51).set ((pre.length : Int)).toNat (⟨t.f0, t.f1⟩ : S51) = (pre ++ [t]) ++ List.replicate suf.length z51 := set_mid pre _ t _
    rw [e, app_one pre t suf]
    exact ih (pre ++ [t]) (len_app hb)
theorem toTieS_ev (l : List S82) (hb : (l.length : Int) ≤ 1048576) : Ev (fun k => laws_toTieS.f k l) l := by
  unfold laws_toTieS.f
  have h1 : ((l.length : Int)).toNat ≤ 17592186044416 := by omega
  simp only [nn, if_true, h1, Int.toNat_natCast]
  have h2 : l.length ≤ 17592186044416 := by omega
  simp only [h2, if_true]
  exact toTieS_l0 l [] (by unfold big; simp; omega)
theorem toNet_ev (n : Int) (l : List S82) (hb : (l.length : Int) ≤ 1048576) : Ev (fun k => laws_toNet.f k n l) (n, l) := by
  unfold laws_toNet.f
  exact Ev.bind (toTieS_ev l hb) (Ev.val rfl)
theorem eqTieS_l0 : ∀ (suf p1 p2 : List S51), p1.length = p2.length → ((p1 ++ suf).length : Int) < big →
    Ev (fun k => laws_eqTieS.l0 k (p1 ++ suf) (p2 ++ suf) (p1.length : Int)) true := by
  intro suf
  induction suf with
  | nil =>
    intro p1 p2 e hb
    refine Ev.step (fun k => by simp only [laws_eqTieS.l0, nlt_end, if_false] <;> exact rfl) ?_
    exact Ev.val rfl
  | cons t suf ih =>
    intro p1 p2 e hb
    have hp : (p1.length : Int) < big := len_mid hb
    have l2 : (p1.length : Int) < ((p2 ++ t :: suf).length : Int) := by rw [e]; exact lt_mid _ _ _
    have r2 : rd_T51 (p2 ++ t :: suf) (p1.length : Int) = t := by rw [e]; exact rdI_mid _ _ _
    refine Ev.step (fun k => by simp only [laws_eqTieS.l0, laws_eqTie.f, lt_mid, nn, if_true, rdI_mid, w_succ (t := t) hp, l2, r2, Option.bind_some] <;> exact rfl) ?_
    rw [app_one p1 t suf, app_one p2 t suf]
    exact ih (p1 ++ [t]) (p2 ++ [t]) (by simp [e]) (len_app hb)
theorem eqTieS_refl (l : List S51) (hb : (l.length : Int) < big) : Ev (fun k => laws_eqTieS.f k l l) true := by
  unfold laws_eqTieS.f
  simp only [if_true]
  exact eqTieS_l0 l [] [] rfl hb
theorem eqNet_refl (n : Int) (l : List S51) (hb : (l.length : Int) < big) : Ev (fun k => laws_eqNet.f k n l n l) true := by
  unfold laws_eqNet.f
  simp only [if_true]
  exact Ev.bind (eqTieS_refl l hb) (Ev.val rfl)
end Go.Proofs.YtjkeagcenmmknaaDoor.P
