/- A net without a knot: what the program comes to. -/
import Derived.Test.YtjkeagcenmmknaaDoorBki
import Derived.Test.YtjkeagcenmmknaaDoorBok
import Derived.Test.YtjkeagcenmmknaaDoorGwo
import Derived.Test.YtjkeagcenmmknaaDoorF24
namespace Go.Proofs.YtjkeagcenmmknaaDoor.P
set_option linter.unusedSimpArgs false
set_option linter.unusedVariables false
open Go.RowKit Go.Proofs.YtjkeagcenmmknaaDoorW.PrintWords Go.Proofs.YtjkeagcenmmknaaDoor.G
theorem without_l0 (n m a : Int) : ∀ (suf p q : List S51), ((p ++ suf).length : Int) ≤ 1048576 → q.length ≤ p.length →
    Ev (fun k => impl_Net_without.l0 k a (p ++ suf) ((p ++ suf).length : Int) (p.length : Int) m q) (m, q ++ wo suf a) := by
  intro suf
  induction suf with
  | nil =>
    intro p q hb hq
    refine Ev.step (fun k => by simp only [impl_Net_without.l0, nlt_end, if_false] <;> exact rfl) ?_
    exact Ev.val (by simp [wo])
  | cons t suf ih =>
    intro p q hb hq
    have hb' : ((p ++ t :: suf).length : Int) < big := by unfold big; omega
    have hp : (p.length : Int) < big := len_mid hb'
    have hq8 : q.length < 8796093022208 := by rw [List.length_append] at hb; omega
    by_cases c : t.f0 = a
    · refine Ev.step (fun k => by simp only [impl_Net_without.l0, lt_mid, nn, if_true, rdC_mid, w_succ (t := t) hp, if_pos c] <;> exact rfl) ?_
      rw [app_one p t suf]
      refine Ev.eq (ih (p ++ [t]) q (by rw [← app_one]; exact hb) (by simp; omega)) ?_
      simp [wo, c]
    · by_cases d : t.f1 = a
      · refine Ev.step (fun k => by simp only [impl_Net_without.l0, lt_mid, nn, if_true, rdC_mid, w_succ (t := t) hp, if_neg c, if_pos d] <;> exact rfl) ?_
        rw [app_one p t suf]
        refine Ev.eq (ih (p ++ [t]) q (by rw [← app_one]; exact hb) (by simp; omega)) ?_
        simp [wo, d]
      · refine Ev.step (fun k => by simp only [impl_Net_without.l0, lt_mid, nn, if_true, rdC_mid, w_succ (t := t) hp, if_neg c, if_neg d, if_pos hq8] <;> exact rfl) ?_
        rw [app_one p t suf]
        refine Ev.eq (ih (p ++ [t]) (q ++ [t]) (by rw [← app_one]; exact hb) (by simp; omega)) ?_
        simp [wo, c, d]
theorem without_ev (n a : Int) (E : List S51) (hE : (E.length : Int) ≤ 1048576) : Ev (fun k => impl_Net_without.f k n E a) (n, wo E a) := by
  unfold impl_Net_without.f
  exact without_l0 n n a E [] [] hE (Nat.le_refl _)
theorem netWithout_ev (n a : Int) (E : List S51) (h : ok n E) (h0 : 0 ≤ a) (h1 : a < n) : Ev (fun k => impl_NetWithout.f k n E a) (n, wo E a) := by
  have hl := ok_len h
  unfold impl_NetWithout.f
  refine Ev.bind (implOk n E (by unfold big; omega)) ?_
  simp only [decide_eq_true h, if_true, knot_eq, Option.bind_some, decide_eq_true (show 0 ≤ a ∧ a < n from ⟨h0, h1⟩)]
  exact Ev.bind (without_ev n a E (by omega)) (Ev.val rfl)
end Go.Proofs.YtjkeagcenmmknaaDoor.P
