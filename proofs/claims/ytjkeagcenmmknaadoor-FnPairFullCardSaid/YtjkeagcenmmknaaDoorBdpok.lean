/- The draws of a net and ties that may be pairs. -/
import Derived.Test.YtjkeagcenmmknaaDoorBdnet
import Derived.Test.YtjkeagcenmmknaaDoorBtree
import Derived.Test.YtjkeagcenmmknaaDoorBpok
import Derived.Test.YtjkeagcenmmknaaDoorF26
namespace Go.Proofs.YtjkeagcenmmknaaDoor.P
set_option linter.unusedSimpArgs false
set_option linter.unusedVariables false
open Go.RowKit Go.Proofs.YtjkeagcenmmknaaDoorW.PrintWords Go.Proofs.YtjkeagcenmmknaaDoor.G
theorem dpok_l0 (s : List Int) (hs : octs s) (hl : s.length ≤ 2000) (n : Int) (E : List S51) (hE : E.length ≤ 50) : ∀ (suf p L : List S51) (q : Int), p ++ suf = E → L.length ≤ p.length → 0 ≤ q → q + 2 * suf.length ≤ 70000 →
    ∃ L', Ev (fun k => spec_DrawPairOk.l0 k L (p.length : Int) s q n (p ++ suf)) (n, p ++ suf, L') ∧ L'.length ≤ 50 := by
  have hEb : (E.length : Int) < big := by unfold big; omega
  intro suf
  induction suf with
  | nil =>
    intro p L q he hL h0 h1
    refine ⟨L, Ev.step (fun k => by simp only [spec_DrawPairOk.l0, nlt_end, if_false] <;> exact rfl) (Ev.val rfl), ?_⟩
    rw [← he] at hE
    simp at hE
    omega
  | cons t suf ih =>
    intro p L q he hL h0 h1
    simp only [List.length_cons] at h1
    have hpl : p.length + suf.length + 1 ≤ 50 := by
      rw [← he] at hE
      simp at hE
      omega
    have hp : (p.length : Int) < big := by unfold big; omega
    have e1 : p ++ t :: suf = (p ++ [t]) ++ suf := by simp
    have he' : (p ++ [t]) ++ suf = E := by rw [← e1]; exact he
    obtain ⟨u, u1, u2, u3⟩ := pick_ev s hs hl q 2 h0 (by omega)
    by_cases c : u = 0
    · obtain ⟨v, v1, v2, v3⟩ := pick_ev s hs hl (q + 1) 12 (by omega) (by omega)
      have z1 : L.length + ([t] : List S51).length < 8796093022208 := by simp; omega
      obtain ⟨A, a1, a2⟩ := ih (p ++ [t]) (L ++ [t]) (q + 1 + 1) he' (by simp; omega) (by omega) (by omega)
      obtain ⟨B, b1, b2⟩ := ih (p ++ [t]) L (q + 1 + 1) he' (by simp; omega) (by omega) (by omega)
      by_cases d : v = 0
      · refine ⟨A, ?_, a2⟩
        refine Ev.step (fun k => by simp only [spec_DrawPairOk.l0, lt_mid, nn, if_true, rdTr_mid, w_succ (t := t) hp, Option.bind_some, if_pos z1] <;> exact rfl) ?_
        refine Ev.bind u1 ?_
        simp only [if_pos c]
        refine Ev.bind v1 ?_
        simp only [if_pos d]
        rw [e1]
        exact a1
      · have z2 : ([] : List S51).length + L.length < 8796093022208 := by simp; omega
        have z3 : (([] : List S51) ++ L).length + ([t] : List S51).length < 8796093022208 := by simp; omega
        have k1 := pairSpec n E (([] : List S51) ++ L ++ [t]) hEb (by unfold big; simp; omega)
        have step : ∀ r, Ev (fun k => if decide (pairOk n E (([] : List S51) ++ L ++ [t])) = true then spec_DrawPairOk.l0 k (L ++ [t]) ((p ++ [t]).length : Int) s (q + 1 + 1) n (p ++ t :: suf) else spec_DrawPairOk.l0 k L ((p ++ [t]).length : Int) s (q + 1 + 1) n (p ++ t :: suf)) r →
            Ev (fun k => spec_DrawPairOk.l0 k L (p.length : Int) s q n (p ++ t :: suf)) r := by
          intro r hr
          refine Ev.step (fun k => by simp only [spec_DrawPairOk.l0, lt_mid, nn, if_true, rdTr_mid, w_succ (t := t) hp, Option.bind_some, if_pos z1, if_pos z2, if_pos z3] <;> exact rfl) ?_
          refine Ev.bind u1 ?_
          simp only [if_pos c]
          refine Ev.bind v1 ?_
          simp only [if_neg d]
          rw [← he] at k1
          refine Ev.bind k1 ?_
          rw [← he] at hr
          exact hr
        by_cases w : pairOk n E (([] : List S51) ++ L ++ [t])
        · refine ⟨A, step _ ?_, a2⟩
          simp only [decide_eq_true w, if_true]
          rw [e1]
          exact a1
        · refine ⟨B, step _ ?_, b2⟩
          simp only [decide_eq_false w, Bool.false_eq_true, if_false]
          rw [e1]
          exact b1
    · obtain ⟨B, b1, b2⟩ := ih (p ++ [t]) L (q + 1) he' (by simp; omega) (by omega) (by omega)
      refine ⟨B, ?_, b2⟩
      refine Ev.step (fun k => by simp only [spec_DrawPairOk.l0, lt_mid, nn, if_true, rdTr_mid, w_succ (t := t) hp, Option.bind_some] <;> exact rfl) ?_
      refine Ev.bind u1 ?_
      simp only [if_neg c]
      rw [e1]
      exact b1
theorem drawPairOk_ev (l : List Int) (h : octs l) : ∃ n E L, Ev (fun k => spec_DrawPairOk.f k l) (n, E, L) ∧ E.length ≤ 50 ∧ L.length ≤ 50 := by
  obtain ⟨s, o1, o2, o3⟩ := open_eq l h
  obtain ⟨⟨n, E, q⟩, r1, r2⟩ := any_ev s o2 o3 0 (by omega) (by omega)
  simp only [Drawn] at r2
  obtain ⟨v, v1, v2, v3⟩ := pick_ev s o2 o3 q 4 (by omega) (by omega)
  unfold spec_DrawPairOk.f
  simp only [o1, Option.bind_some]
  by_cases c : v = 0
  · have t1 := treeSpec n E (by unfold big; omega)
    have tl : (if ok n E then tree E else []).length ≤ 50 := by
      split
      · have := (tree_sub E).length_le; omega
      · simp
    refine ⟨n, E, _, Ev.bind r1 (Ev.bind v1 ?_), by omega, tl⟩
    simp only [if_pos c]
    exact Ev.bind t1 (Ev.val rfl)
  · obtain ⟨L, l1, l2⟩ := dpok_l0 s o2 o3 n E (by omega) E [] [] (q + 1) rfl (by simp) (by omega) (by omega)
    refine ⟨n, E, L, Ev.bind r1 (Ev.bind v1 ?_), by omega, l2⟩
    simp only [if_neg c]
    exact l1
end Go.Proofs.YtjkeagcenmmknaaDoor.P
