/- The draws of a net. -/
import Derived.Test.YtjkeagcenmmknaaDoorBdraw
import Derived.Test.YtjkeagcenmmknaaDoorF9
import Derived.Test.YtjkeagcenmmknaaDoorF10
import Derived.Test.YtjkeagcenmmknaaDoorF11
namespace Go.Proofs.YtjkeagcenmmknaaDoor.P
set_option linter.unusedSimpArgs false
set_option linter.unusedVariables false
open Go.RowKit Go.Proofs.YtjkeagcenmmknaaDoorW.PrintWords Go.Proofs.YtjkeagcenmmknaaDoor.G
theorem dnet_l2 (s : List Int) (hs : octs s) (hl : s.length ≤ 2000) : ∀ (d : Nat) (p n : Int) (E : List S51), d ≤ 20 → 0 ≤ p → p + 2 * d ≤ 80000 → 0 ≤ n → n ≤ 8 → E.length + d ≤ 1000 →
    ∃ r, Ev (fun k => spec_l71Net.l2 k (d : Int) s p n E) r ∧ Drawn 0 8 (E.length + d) (2 * d) p r := by
  intro d
  induction d with
  | zero =>
    intro p n E hd h0 h1 n0 n1 hE
    refine ⟨(n, E, p), ?_, by simp [Drawn]; omega⟩
    have c : ¬ (0 : Int) > 0 := by omega
    refine Ev.step (fun k => by simp only [spec_l71Net.l2, Int.natCast_zero, if_neg c] <;> exact rfl) ?_
    exact Ev.step (fun k => by simp only [spec_l71Net.j4, Bool.false_eq_true, if_false] <;> exact rfl) (Ev.val rfl)
  | succ d ih =>
    intro p n E hd h0 h1 n0 n1 hE
    have c : ((d + 1 : Nat) : Int) > 0 := by omega
    have w : wrap64 (((d + 1 : Nat) : Int) - 1) = (d : Int) := by rw [w64 (by omega) (by omega)]; omega
    by_cases m : n > 1
    · obtain ⟨v, v1, _⟩ := pick_ev s hs hl p n h0 (by omega)
      obtain ⟨u, u1, _⟩ := pick_ev s hs hl (p + 1) n (by omega) (by omega)
      obtain ⟨m', F, t, a1, a2, a3⟩ := add_ev n v u E (by omega)
      have step : ∀ r, Ev (fun k => if t = true then spec_l71Net.l2 k (d : Int) s (p + 1 + 1) m' F else spec_l71Net.l2 k (d : Int) s (p + 1 + 1) n E) r → Ev (fun k => spec_l71Net.l2 k ((d + 1 : Nat) : Int) s p n E) r := by
        intro r hr
        refine Ev.step (fun k => by simp only [spec_l71Net.l2, if_pos c, decide_eq_true m] <;> exact rfl) ?_
        refine Ev.step (fun k => by simp only [spec_l71Net.j4, if_true, w] <;> exact rfl) ?_
        exact Ev.bind v1 (Ev.bind u1 (Ev.bind a1 hr))
      cases t with
      | true =>
        obtain ⟨r, r1, r2⟩ := ih (p + 1 + 1) m' F (by omega) (by omega) (by omega) (by omega) (by omega) (by omega)
        exact ⟨r, step r (by simp only [if_true]; exact r1), by unfold Drawn at *; omega⟩
      | false =>
        obtain ⟨r, r1, r2⟩ := ih (p + 1 + 1) n E (by omega) (by omega) (by omega) (by omega) (by omega) (by omega)
        exact ⟨r, step r (by simp only [Bool.false_eq_true, if_false]; exact r1), by unfold Drawn at *; omega⟩
    · refine ⟨(n, E, p), ?_, by simp [Drawn]; omega⟩
      refine Ev.step (fun k => by simp only [spec_l71Net.l2, if_pos c, decide_eq_false m] <;> exact rfl) ?_
      exact Ev.step (fun k => by simp only [spec_l71Net.j4, Bool.false_eq_true, if_false] <;> exact rfl) (Ev.val rfl)
theorem dnet_j2 (s : List Int) (hs : octs s) (hl : s.length ≤ 2000) (p n : Int) (E : List S51) (h0 : 0 ≤ p) (h1 : p ≤ 75000) (n0 : 0 ≤ n) (n1 : n ≤ 8) (hE : E.length ≤ 20) :
    ∃ r, Ev (fun k => spec_l71Net.j2 k s p n E) r ∧ Drawn 0 8 40 30 p r := by
  obtain ⟨v, v1, v2, v3⟩ := pick_ev s hs hl p 13 h0 (by omega)
  obtain ⟨r, r1, r2⟩ := dnet_l2 s hs hl v.toNat (p + 1) n E (by omega) (by omega) (by omega) n0 n1 (by omega)
  rw [Int.toNat_of_nonneg v2] at r1
  refine ⟨r, Ev.step (fun k => by simp only [spec_l71Net.j2] <;> exact rfl) (Ev.bind v1 r1), by unfold Drawn at *; omega⟩
theorem dnet_l0 (s : List Int) (hs : octs s) (hl : s.length ≤ 2000) : ∀ (d : Nat) (i p n : Int) (E : List S51), i + d = 9 → 0 ≤ i → 0 ≤ p → p + d ≤ 70000 → 0 ≤ n → n ≤ 8 → (E.length : Int) ≤ i →
    ∃ r, Ev (fun k => spec_l71Net.l0 k i s p n E) r ∧ Drawn 0 8 40 (30 + d) p r := by
  intro d
  induction d with
  | zero =>
    intro i p n E hi i0 h0 h1 n0 n1 hE
    obtain ⟨r, r1, r2⟩ := dnet_j2 s hs hl p n E h0 (by omega) n0 n1 (by omega)
    have c : ¬ i < n := by omega
    exact ⟨r, Ev.step (fun k => by simp only [spec_l71Net.l0, if_neg c] <;> exact rfl) r1, by unfold Drawn at *; omega⟩
  | succ d ih =>
    intro i p n E hi i0 h0 h1 n0 n1 hE
    by_cases c : i < n
    · obtain ⟨v, v1, _⟩ := pick_ev s hs hl p i h0 (by omega)
      obtain ⟨m', F, t, a1, a2, a3⟩ := add_ev n i v E (by omega)
      obtain ⟨r, r1, r2⟩ := ih (i + 1) (p + 1) m' F (by omega) (by omega) (by omega) (by omega) (by omega) (by omega) (by omega)
      refine ⟨r, Ev.step (fun k => by simp only [spec_l71Net.l0, if_pos c, w64 (x := i + 1) (by omega) (by omega)] <;> exact rfl) (Ev.bind v1 (Ev.bind a1 r1)), by unfold Drawn at *; omega⟩
    · obtain ⟨r, r1, r2⟩ := dnet_j2 s hs hl p n E h0 (by omega) n0 n1 (by omega)
      exact ⟨r, Ev.step (fun k => by simp only [spec_l71Net.l0, if_neg c] <;> exact rfl) r1, by unfold Drawn at *; omega⟩
theorem dnet_l1 (s : List Int) (hs : octs s) (hl : s.length ≤ 2000) : ∀ (d : Nat) (i p n : Int) (E : List S51), i + d = 9 → 0 ≤ i → 0 ≤ p → p ≤ 70000 → 0 ≤ n → n ≤ 8 → (E.length : Int) ≤ i →
    ∃ r, Ev (fun k => spec_l71Net.l1 k i s p n E) r ∧ Drawn 0 8 40 (30 + d) p r := by
  intro d
  induction d with
  | zero =>
    intro i p n E hi i0 h0 h1 n0 n1 hE
    obtain ⟨r, r1, r2⟩ := dnet_j2 s hs hl p n E h0 (by omega) n0 n1 (by omega)
    have c : ¬ i < n := by omega
    exact ⟨r, Ev.step (fun k => by simp only [spec_l71Net.l1, if_neg c] <;> exact rfl) r1, by unfold Drawn at *; omega⟩
  | succ d ih =>
    intro i p n E hi i0 h0 h1 n0 n1 hE
    by_cases c : i < n
    · by_cases c2 : n > 2
      · have c3 : ¬ n = 0 := by omega
        obtain ⟨m', F, t, a1, a2, a3⟩ := add_ev n i (Int.tmod (i + 1) n) E (by omega)
        obtain ⟨r, r1, r2⟩ := ih (i + 1) p m' F (by omega) (by omega) (by omega) (by omega) (by omega) (by omega) (by omega)
        refine ⟨r, Ev.step (fun k => by simp only [spec_l71Net.l1, if_pos c, if_pos c2, if_neg c3, w64 (x := i + 1) (by omega) (by omega)] <;> exact rfl) (Ev.bind a1 r1), by unfold Drawn at *; omega⟩
      · obtain ⟨r, r1, r2⟩ := dnet_j2 s hs hl p n E h0 (by omega) n0 n1 (by omega)
        exact ⟨r, Ev.step (fun k => by simp only [spec_l71Net.l1, if_pos c, if_neg c2] <;> exact rfl) r1, by unfold Drawn at *; omega⟩
    · obtain ⟨r, r1, r2⟩ := dnet_j2 s hs hl p n E h0 (by omega) n0 n1 (by omega)
      exact ⟨r, Ev.step (fun k => by simp only [spec_l71Net.l1, if_neg c] <;> exact rfl) r1, by unfold Drawn at *; omega⟩
theorem dnet_ev (s : List Int) (hs : octs s) (hl : s.length ≤ 2000) (p : Int) (h0 : 0 ≤ p) (h1 : p ≤ 60000) :
    ∃ r, Ev (fun k => spec_l71Net.f k s p) r ∧ Drawn 0 8 40 50 p r := by
  obtain ⟨v, v1, v2, v3⟩ := pick_ev s hs hl p 8 h0 (by omega)
  obtain ⟨u, u1, u2, u3⟩ := pick_ev s hs hl (p + 1) 6 (by omega) (by omega)
  have w : wrap64 (1 + v) = 1 + v := w64 (by omega) (by omega)
  unfold spec_l71Net.f
  by_cases c : u = 0
  · obtain ⟨r, r1, r2⟩ := dnet_l0 s hs hl 8 1 (p + 1 + 1) (1 + v) [] (by omega) (by omega) (by omega) (by omega) (by omega) (by omega) (by simp)
    refine ⟨r, Ev.bind v1 (Ev.bind u1 ?_), by unfold Drawn at *; omega⟩
    simp only [w, if_pos c]
    exact r1
  · by_cases d : u = 1
    · obtain ⟨r, r1, r2⟩ := dnet_l1 s hs hl 9 0 (p + 1 + 1) (1 + v) [] (by omega) (by omega) (by omega) (by omega) (by omega) (by omega) (by simp)
      refine ⟨r, Ev.bind v1 (Ev.bind u1 ?_), by unfold Drawn at *; omega⟩
      simp only [w, if_neg c, if_pos d]
      exact r1
    · obtain ⟨r, r1, r2⟩ := dnet_j2 s hs hl (p + 1 + 1) (1 + v) [] (by omega) (by omega) (by omega) (by omega) (by simp)
      refine ⟨r, Ev.bind v1 (Ev.bind u1 ?_), by unfold Drawn at *; omega⟩
      simp only [w, if_neg c, if_neg d]
      exact r1
theorem spoil_ev (s : List Int) (hs : octs s) (hl : s.length ≤ 2000) (p n : Int) (E : List S51) (h0 : 0 ≤ p) (h1 : p ≤ 70000) (n0 : 0 ≤ n) (n1 : n ≤ 8) (hE : E.length ≤ 40) :
    ∃ r, Ev (fun k => spec_l71Spoil.f k s p n E) r ∧ Drawn (-1) 9 50 5 p r := by
  obtain ⟨v, v1, v2, v3⟩ := pick_ev s hs hl p 6 h0 (by omega)
  have q8 : E.length < 8796093022208 := by omega
  have q9 : ([(⟨-1, 0⟩ : S51)] : List S51).length + E.length < 8796093022208 := by simp; omega
  unfold spec_l71Spoil.f
  simp only [copy_eq n E (by omega), Option.bind_some, if_pos q8, if_pos q9]
  by_cases c0 : v = 0
  · obtain ⟨u, u1, u2, u3⟩ := pick_ev s hs hl (p + 1) 5 (by omega) (by omega)
    have g : u < ((([(-1), 0, 1, 8, 9] : List Int)).length : Int) := by show u < 5; omega
    have b : -1 ≤ rd [(-1), 0, 1, 8, 9] u ∧ rd [(-1), 0, 1, 8, 9] u ≤ 9 := by
      have : u = 0 ∨ u = 1 ∨ u = 2 ∨ u = 3 ∨ u = 4 := by omega
      rcases this with rfl | rfl | rfl | rfl | rfl <;> decide
    refine ⟨(rd [(-1), 0, 1, 8, 9] u, E, p + 1 + 1), Ev.bind v1 ?_, by simp [Drawn]; omega⟩
    simp only [if_pos c0]
    refine Ev.bind u1 ?_
    simp only [if_pos u2, if_pos g]
    exact Ev.val rfl
  by_cases c1 : v = 1
  · obtain ⟨u, u1, u2, u3⟩ := pick_ev s hs hl (p + 1) 3 (by omega) (by omega)
    obtain ⟨t, t1, t2, t3⟩ := pick_ev s hs hl (p + 1 + 1) 3 (by omega) (by omega)
    refine ⟨(n, E ++ [⟨u, t⟩], p + 1 + 1 + 1), Ev.bind v1 ?_, by simp [Drawn]; omega⟩
    simp only [if_neg c0, if_pos c1]
    exact Ev.bind u1 (Ev.bind t1 (Ev.val rfl))
  by_cases c2 : v = 2
  · refine ⟨(n, E ++ [⟨wrap64 (n - 1), n⟩], p + 1), Ev.bind v1 ?_, by simp [Drawn]; omega⟩
    simp only [if_neg c0, if_neg c1, if_pos c2]
    exact Ev.val rfl
  by_cases c3 : v = 3
  · by_cases d : (E.length : Int) > 0
    · obtain ⟨u, u1, u2, u3⟩ := pick_ev s hs hl (p + 1) (E.length : Int) (by omega) (by omega)
      have g : u < (E.length : Int) := by omega
      refine ⟨(n, E.set u.toNat ⟨(rd_T51 E u).f1, (rd_T51 E u).f0⟩, p + 1 + 1), Ev.bind v1 ?_, by simp [Drawn]; omega⟩
      simp only [if_neg c0, if_neg c1, if_neg c2, if_pos c3, if_pos d]
      refine Ev.bind u1 ?_
      simp only [if_pos u2, if_pos g]
      exact Ev.val rfl
    · refine ⟨(n, E, p + 1), Ev.bind v1 ?_, by simp [Drawn]; omega⟩
      simp only [if_neg c0, if_neg c1, if_neg c2, if_pos c3, if_neg d]
      exact Ev.val rfl
  by_cases c4 : v = 4
  · by_cases d : (E.length : Int) > 1
    · have d0 : 0 < (E.length : Int) := by omega
      refine ⟨(n, E ++ [⟨(rd_T51 E 0).f0, (rd_T51 E 0).f1⟩], p + 1), Ev.bind v1 ?_, by simp [Drawn]; omega⟩
      simp only [if_neg c0, if_neg c1, if_neg c2, if_neg c3, if_pos c4, if_pos d, if_pos d0]
      exact Ev.val rfl
    · refine ⟨(n, E, p + 1), Ev.bind v1 ?_, by simp [Drawn]; omega⟩
      simp only [if_neg c0, if_neg c1, if_neg c2, if_neg c3, if_pos c4, if_neg d]
      exact Ev.val rfl
  · refine ⟨(n, [⟨-1, 0⟩] ++ E, p + 1), Ev.bind v1 ?_, by simp [Drawn]; omega⟩
    simp only [if_neg c0, if_neg c1, if_neg c2, if_neg c3, if_neg c4]
    exact Ev.val rfl
/-- a net, sometimes a spoilt one -/
theorem any_ev (s : List Int) (hs : octs s) (hl : s.length ≤ 2000) (p : Int) (h0 : 0 ≤ p) (h1 : p ≤ 60000) :
    ∃ r, Ev (fun k => spec_l71Any.f k s p) r ∧ Drawn (-1) 9 50 60 p r := by
  obtain ⟨⟨n, E, q⟩, r1, r2⟩ := dnet_ev s hs hl p h0 h1
  simp only [Drawn] at r2
  obtain ⟨v, v1, v2, v3⟩ := pick_ev s hs hl q 12 (by omega) (by omega)
  unfold spec_l71Any.f
  by_cases c : v = 0
  · obtain ⟨r, s1, s2⟩ := spoil_ev s hs hl (q + 1) n E (by omega) (by omega) (by omega) (by omega) (by omega)
    refine ⟨r, Ev.bind r1 (Ev.bind v1 ?_), by unfold Drawn at *; omega⟩
    simp only [if_pos c]
    exact Ev.bind s1 (Ev.val rfl)
  · refine ⟨(n, E, q + 1), Ev.bind r1 (Ev.bind v1 ?_), by simp [Drawn]; omega⟩
    simp only [if_neg c]
    exact Ev.val rfl
end Go.Proofs.YtjkeagcenmmknaaDoor.P
