/- How many ties a knot has, as the laws count. -/
import Derived.Test.YtbkdpnfjcnkoeaaBok
import Derived.Test.YtbkdpnfjcnkoeaaGd
import Derived.Test.YtbkdpnfjcnkoeaaF26
namespace Go.Proofs.Ytbkdpnfjcnkoeaa.P
set_option linter.unusedSimpArgs false
set_option linter.unusedVariables false
open Go.RowKit Go.Proofs.YtbkdpnfjcnkoeaaW.PrintWords Go.Proofs.Ytbkdpnfjcnkoeaa.G
theorem many_l0 (n v : Int) : ∀ (suf p : List S63) (x : Int), ((p ++ suf).length : Int) ≤ 1048576 → x = (deg p v : Int) →
    Ev (fun k => laws_loMany.l0 k v x (p.length : Int) n (p ++ suf)) (deg (p ++ suf) v : Int) := by
  intro suf
  induction suf with
  | nil =>
    intro p x hb hx
    refine Ev.step (fun k => by simp only [laws_loMany.l0, nlt_end, if_false] <;> exact rfl) (Ev.val (by simp [hx]))
  | cons t suf ih =>
    intro p x hb hx
    have hb' : ((p ++ t :: suf).length : Int) < big := by unfold big; omega
    have hp : (p.length : Int) < big := len_mid hb'
    have hd := deg_le p v
    have hpl : p.length ≤ 1048576 := by rw [List.length_append] at hb; omega
    have w : wrap64 (x + 1) = x + 1 := w64 (by omega) (by omega)
    have hb2 : (((p ++ [t]) ++ suf).length : Int) ≤ 1048576 := by rw [← app_one]; exact hb
    have ds := deg_snoc p t v
    by_cases c : t.f0 = v
    · have e := ih (p ++ [t]) (x + 1) hb2 (by rw [ds, if_pos (.inl c)]; omega)
      refine Ev.step (fun k => by simp only [laws_loMany.l0, lt_mid, nn, if_true, rdI_mid, w_succ (t := t) hp, if_pos c, w] <;> exact rfl) ?_
      rw [app_one p t suf]
      exact e
    · by_cases c2 : t.f1 = v
      · have e := ih (p ++ [t]) (x + 1) hb2 (by rw [ds, if_pos (.inr c2)]; omega)
        refine Ev.step (fun k => by simp only [laws_loMany.l0, lt_mid, nn, if_true, rdI_mid, w_succ (t := t) hp, if_neg c, if_pos c2, w] <;> exact rfl) ?_
        rw [app_one p t suf]
        exact e
      · have e := ih (p ++ [t]) x hb2 (by rw [ds, if_neg (by rintro (h | h); exact c h; exact c2 h)]; omega)
        refine Ev.step (fun k => by simp only [laws_loMany.l0, lt_mid, nn, if_true, rdI_mid, w_succ (t := t) hp, if_neg c, if_neg c2] <;> exact rfl) ?_
        rw [app_one p t suf]
        exact e
theorem many_ev (n v : Int) (E : List S63) (hE : (E.length : Int) ≤ 1048576) : Ev (fun k => laws_loMany.f k n E v) (deg E v : Int) := by
  unfold laws_loMany.f
  exact many_l0 n v E [] 0 hE (by simp [deg])
theorem tmod2n (m : Nat) : Int.tmod (m : Int) 2 = ((m % 2 : Nat) : Int) := by
  rw [Int.tmod_eq_emod_of_nonneg (by omega)]; omega
end Go.Proofs.Ytbkdpnfjcnkoeaa.P
