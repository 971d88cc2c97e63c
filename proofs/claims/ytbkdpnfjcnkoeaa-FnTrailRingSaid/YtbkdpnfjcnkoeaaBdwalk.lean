/- The draws of a way, and of what may go over each tie once. -/
import Derived.Test.YtbkdpnfjcnkoeaaBdnet
import Derived.Test.YtbkdpnfjcnkoeaaBdknot
import Derived.Test.YtbkdpnfjcnkoeaaBreach
import Derived.Test.YtbkdpnfjcnkoeaaF20
namespace Go.Proofs.Ytbkdpnfjcnkoeaa.P
set_option linter.unusedSimpArgs false
set_option linter.unusedVariables false
open Go.RowKit Go.Proofs.YtbkdpnfjcnkoeaaW.PrintWords Go.Proofs.Ytbkdpnfjcnkoeaa.G
theorem l2Has_l0 (v : Int) : ∀ (suf p : List Int), ((p ++ suf).length : Int) < big → ∃ b, Ev (fun k => spec_l2Has.l0 k (p ++ suf) v (p.length : Int)) b := by
  intro suf
  induction suf with
  | nil =>
    intro p hb
    exact ⟨false, Ev.step (fun k => by simp only [spec_l2Has.l0, nlt_end, if_false] <;> exact rfl) (Ev.val rfl)⟩
  | cons t suf ih =>
    intro p hb
    have hp : (p.length : Int) < big := len_mid hb
    by_cases c : t = v
    · exact ⟨true, Ev.step (fun k => by simp only [spec_l2Has.l0, lt_mid, nn, if_true, rd_mid, if_pos c] <;> exact rfl) (Ev.val rfl)⟩
    · obtain ⟨b, h⟩ := ih (p ++ [t]) (len_app hb)
      refine ⟨b, Ev.step (fun k => by simp only [spec_l2Has.l0, lt_mid, nn, if_true, rd_mid, if_neg c, w_succ (t := t) hp] <;> exact rfl) ?_⟩
      rw [app_one p t suf]
      exact h
theorem l2Has_some (l : List Int) (v : Int) (h : (l.length : Int) < big) : ∃ b, Ev (fun k => spec_l2Has.f k l v) b := by
  unfold spec_l2Has.f
  exact l2Has_l0 v l [] h
theorem dwalk_j2 (s : List Int) (hs : octs s) (hl : s.length ≤ 2000) (x : List Int) (hx : 1 ≤ x.length ∧ x.length ≤ 20) (p : Int) (h0 : 0 ≤ p) (h1 : p ≤ 80000) :
    ∃ out q, Ev (fun k => spec_l71Walk.j2 k x s p) (out, q) ∧ out.length ≤ 20 := by
  obtain ⟨v, v1, v2, v3⟩ := pick_ev s hs hl p 16 h0 (by omega)
  by_cases c0 : v = 0
  · obtain ⟨u, u1, u2, u3⟩ := pick_ev s hs hl (p + 1) (x.length : Int) (by omega) (by omega)
    obtain ⟨t, t1, t2, t3⟩ := pick_ev s hs hl (p + 1 + 1) 9 (by omega) (by omega)
    have g : u < (x.length : Int) := by omega
    refine ⟨x.set u.toNat t, p + 1 + 1 + 1, Ev.step (fun k => by simp only [spec_l71Walk.j2] <;> exact rfl) (Ev.bind v1 ?_), by simp; omega⟩
    simp only [if_pos c0]
    refine Ev.bind u1 (Ev.bind t1 ?_)
    simp only [if_pos u2, if_pos g]
    exact Ev.val rfl
  by_cases c1 : v = 1
  · refine ⟨[], p + 1, Ev.step (fun k => by simp only [spec_l71Walk.j2] <;> exact rfl) (Ev.bind v1 ?_), by simp⟩
    simp only [if_neg c0, if_pos c1]
    exact Ev.val rfl
  · refine ⟨x, p + 1, Ev.step (fun k => by simp only [spec_l71Walk.j2] <;> exact rfl) (Ev.bind v1 ?_), hx.2⟩
    simp only [if_neg c0, if_neg c1]
    exact Ev.val rfl
theorem dwalk_l0 (s : List Int) (hs : octs s) (hl : s.length ≤ 2000) (n : Int) (E : List S63) (hE : E.length ≤ 50) : ∀ (d : Nat) (x : List Int) (p : Int), d ≤ 10 → 1 ≤ x.length → x.length + d ≤ 20 → 0 ≤ p → p + 3 * d ≤ 70000 →
    ∃ out q, Ev (fun k => spec_l71Walk.l0 k x (d : Int) s p n E) (out, q) ∧ out.length ≤ 20 := by
  intro d
  induction d with
  | zero =>
    intro x p hd x1 x2 h0 h1
    obtain ⟨out, q, e, ho⟩ := dwalk_j2 s hs hl x ⟨x1, by omega⟩ p h0 (by omega)
    have c : ¬ (0 : Int) > 0 := by omega
    exact ⟨out, q, Ev.step (fun k => by simp only [spec_l71Walk.l0, Int.natCast_zero, if_neg c] <;> exact rfl) e, ho⟩
  | succ d ih =>
    intro x p hd x1 x2 h0 h1
    have c : ((d + 1 : Nat) : Int) > 0 := by omega
    have w : wrap64 (((d + 1 : Nat) : Int) - 1) = (d : Int) := by rw [w64 (by omega) (by omega)]; omega
    have wl : wrap64 ((x.length : Int) - 1) = (x.length : Int) - 1 := w64 (by omega) (by omega)
    have g1 : 0 ≤ (x.length : Int) - 1 := by omega
    have g2 : (x.length : Int) - 1 < (x.length : Int) := by omega
    have hEb : (E.length : Int) < big := by unfold big; omega
    have hx8 : x.length < 17592186044416 := by omega
    -- with the knots to go on to
    have fin : ∀ list : List Int, (list.length : Int) < big → ∃ out q, Ev (fun k => spec_l71Walk.j1 k x ((d + 1 : Nat) : Int) list s p n E) (out, q) ∧ out.length ≤ 20 := by
      intro list hll
      by_cases z : (list.length : Int) = 0
      · obtain ⟨out, q, e, ho⟩ := dwalk_j2 s hs hl x ⟨x1, by omega⟩ p h0 (by omega)
        exact ⟨out, q, Ev.step (fun k => by simp only [spec_l71Walk.j1, if_pos z] <;> exact rfl) e, ho⟩
      · obtain ⟨u, u1, u2, u3⟩ := pick_ev s hs hl p (list.length : Int) h0 (by omega)
        have g : u < (list.length : Int) := by omega
        obtain ⟨b, hb⟩ := l2Has_some x (rd list u) (by unfold big; omega)
        have step : ∀ r, Ev (fun k => if b = true then ((spec_l6Rd_pick.f k s (p + 1) 6).bind fun bt700 => (if bt700.1 > 0 then (spec_l71Walk.l0 k x (d : Int) s bt700.2 n E) else (if x.length < 17592186044416 then (spec_l71Walk.l0 k (x ++ [rd list u]) (d : Int) s bt700.2 n E) else (none)))) else (if x.length < 17592186044416 then (spec_l71Walk.l0 k (x ++ [rd list u]) (d : Int) s (p + 1) n E) else (none))) r →
            Ev (fun k => spec_l71Walk.j1 k x ((d + 1 : Nat) : Int) list s p n E) r := by
          intro r hr
          refine Ev.step (fun k => by simp only [spec_l71Walk.j1, if_neg z, w] <;> exact rfl) (Ev.bind u1 ?_)
          simp only [if_pos u2, if_pos g]
          exact Ev.bind hb hr
        cases b with
        | true =>
          obtain ⟨v, v1, v2, v3⟩ := pick_ev s hs hl (p + 1) 6 (by omega) (by omega)
          by_cases c2 : v > 0
          · obtain ⟨out, q, e, ho⟩ := ih x (p + 1 + 1) (by omega) x1 (by omega) (by omega) (by omega)
            refine ⟨out, q, step _ ?_, ho⟩
            simp only [if_true]
            refine Ev.bind v1 ?_
            simp only [if_pos c2]
            exact e
          · obtain ⟨out, q, e, ho⟩ := ih (x ++ [rd list u]) (p + 1 + 1) (by omega) (by simp) (by simp; omega) (by omega) (by omega)
            refine ⟨out, q, step _ ?_, ho⟩
            simp only [if_true]
            refine Ev.bind v1 ?_
            simp only [if_neg c2, if_pos hx8]
            exact e
        | false =>
          obtain ⟨out, q, e, ho⟩ := ih (x ++ [rd list u]) (p + 1) (by omega) (by simp) (by simp; omega) (by omega) (by omega)
          refine ⟨out, q, step _ ?_, ho⟩
          simp only [Bool.false_eq_true, if_false, if_pos hx8]
          exact e
    by_cases hk : ok n E ∧ 0 ≤ rd x ((x.length : Int) - 1) ∧ rd x ((x.length : Int) - 1) < n
    · have hnl : ((next n E (rd x ((x.length : Int) - 1))).length : Int) < big := by
        have := List.length_filter_le (fun j => decide (tieOf (rd x ((x.length : Int) - 1)) j ∈ E)) (knots n)
        rw [knots_len] at this
        have := hk.1.2.1
        unfold big; unfold next; omega
      obtain ⟨out, q, e, ho⟩ := fin _ hnl
      refine ⟨out, q, Ev.step (fun k => by simp only [spec_l71Walk.l0, if_pos c, wl, if_pos g1, if_pos g2] <;> exact rfl) (Ev.bind (l1Knot_ev n _ E hEb) ?_), ho⟩
      simp only [hk, and_self, decide_true, if_true]
      exact Ev.bind (next_ev n _ E hk.1) e
    · obtain ⟨out, q, e, ho⟩ := fin [] (by simp [big])
      refine ⟨out, q, Ev.step (fun k => by simp only [spec_l71Walk.l0, if_pos c, wl, if_pos g1, if_pos g2] <;> exact rfl) (Ev.bind (l1Knot_ev n _ E hEb) ?_), ho⟩
      simp only [hk, decide_false, Bool.false_eq_true, if_false]
      exact e
theorem dwalk_ev (s : List Int) (hs : octs s) (hl : s.length ≤ 2000) (p n : Int) (E : List S63) (hE : E.length ≤ 50) (h0 : 0 ≤ p) (h1 : p ≤ 60000) (n0 : -1 ≤ n) (n1 : n ≤ 9) :
    ∃ out q, Ev (fun k => spec_l71Walk.f k s p n E) (out, q) ∧ out.length ≤ 20 := by
  obtain ⟨a, q, k1, k2⟩ := knot_ev s hs hl p n E h0 (by omega) n0 n1
  obtain ⟨v, v1, v2, v3⟩ := pick_ev s hs hl q 7 (by omega) (by omega)
  obtain ⟨out, q', e, ho⟩ := dwalk_l0 s hs hl n E hE v.toNat [a] (q + 1) (by omega) (by simp) (by simp; omega) (by omega) (by omega)
  rw [Int.toNat_of_nonneg v2] at e
  unfold spec_l71Walk.f
  exact ⟨out, q', Ev.bind k1 (Ev.bind v1 e), ho⟩
end Go.Proofs.Ytbkdpnfjcnkoeaa.P
