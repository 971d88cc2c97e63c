/- The first way over all ties: what the reference tells. -/
import Derived.Test.YtbkdpnfjcnkoeaaBtcans
import Derived.Test.YtbkdpnfjcnkoeaaGe
import Derived.Test.YtbkdpnfjcnkoeaaBksc
import Derived.Test.YtbkdpnfjcnkoeaaF18
namespace Go.Proofs.Ytbkdpnfjcnkoeaa.G
set_option linter.unusedSimpArgs false
set_option linter.unusedVariables false
open Go.RowKit Go.Proofs.YtbkdpnfjcnkoeaaW.PrintWords
/-- the least knot to go on to -/
def goesTo (n : Int) (X : List Tie) (a i : Int) : Prop := tieOf a i ∈ X ∧ trailCan n (cut X (tieOf a i)) i
structure First (n : Int) (X : List Tie) (a i : Int) : Prop where
  goes : goesTo n X a i
  least : ∀ j, goesTo n X a j → i ≤ j
/-- step by step the least knot -/
inductive Tr (n : Int) : List Tie → Int → List Int → Prop
  | nil (a : Int) : Tr n [] a []
  | cons {X : List Tie} {a i : Int} {r : List Int} : First n X a i → Tr n (cut X (tieOf a i)) i r → Tr n X a (i :: r)
theorem least_of (p : Int → Prop) : ∀ (l : List Int), (∃ x ∈ l, p x) → ∃ x ∈ l, p x ∧ ∀ y ∈ l, p y → x ≤ y
  | [], h => by obtain ⟨x, hx, _⟩ := h; simp at hx
  | a :: l, h => by
    by_cases hl : ∃ x ∈ l, p x
    · obtain ⟨x, hx, px, hm⟩ := least_of p l hl
      by_cases ha : p a ∧ a ≤ x
      · refine ⟨a, List.mem_cons_self, ha.1, fun y hy py => ?_⟩
        rcases List.mem_cons.1 hy with rfl | hy
        · exact Int.le_refl _
        · have := hm y hy py; omega
      · refine ⟨x, List.mem_cons_of_mem _ hx, px, fun y hy py => ?_⟩
        rcases List.mem_cons.1 hy with rfl | hy
        · have : ¬ y ≤ x := fun q => ha ⟨py, q⟩
          omega
        · exact hm y hy py
    · obtain ⟨x, hx, px⟩ := h
      rcases List.mem_cons.1 hx with rfl | hx
      · refine ⟨x, List.mem_cons_self, px, fun y hy py => ?_⟩
        rcases List.mem_cons.1 hy with rfl | hy
        · exact Int.le_refl _
        · exact absurd ⟨y, hy, py⟩ hl
      · exact absurd ⟨x, hx, px⟩ hl
theorem first_some {n : Int} {X : List Tie} {a : Int} (h : trailCan n X a) (hne : X ≠ []) : ∃ i, First n X a i := by
  obtain ⟨i, h1, h2⟩ := go_on h hne
  obtain ⟨x, hx, px, hm⟩ := least_of (goesTo n X a) (knots n) ⟨i, mem_knots.2 (tieOf_ends (h.1.2.2.1 _ h1)).2.1, h1, h2⟩
  exact ⟨x, px, fun j hj => hm j (mem_knots.2 (tieOf_ends (h.1.2.2.1 _ hj.1)).2.1) hj⟩
theorem tr_some {n : Int} : ∀ (m : Nat) {X : List Tie} {a : Int}, X.length ≤ m → trailCan n X a → ∃ r, Tr n X a r
  | 0, X, a, hm, h => by
    have : X = [] := List.length_eq_zero_iff.1 (by omega)
    subst this
    exact ⟨[], .nil a⟩
  | m + 1, X, a, hm, h => by
    by_cases hne : X = []
    · subst hne; exact ⟨[], .nil a⟩
    · obtain ⟨i, hi⟩ := first_some h hne
      have hl := cut_len (asc_nodup h.1.2.2.2) (tieOf a i)
      rw [if_pos hi.goes.1] at hl
      obtain ⟨r, hr⟩ := tr_some m (X := cut X (tieOf a i)) (a := i) (by omega) hi.goes.2
      exact ⟨i :: r, .cons hi hr⟩
theorem tr_cuts {n : Int} {X : List Tie} {a : Int} {r : List Int} (h : Tr n X a r) (hX : X.Nodup) : cuts X (ties (a :: r)) ∧ r.length = X.length := by
  induction h with
  | nil a => exact ⟨by simp [ties, cuts], rfl⟩
  | @cons X a i r hi hr ih =>
    obtain ⟨h1, h2⟩ := ih (cut_nodup hX _)
    have hl := cut_len hX (tieOf a i)
    rw [if_pos hi.goes.1] at hl
    refine ⟨⟨hi.goes.1, h1⟩, by rw [List.length_cons]; omega⟩
theorem knots_sorted (n : Int) : (knots n).Pairwise (· < ·) := by
  unfold knots
  rw [List.pairwise_map]
  exact List.pairwise_lt_range.imp (fun h => by omega)
theorem next_sorted (n : Int) (X : List Tie) (a : Int) : (next n X a).Pairwise (· < ·) := (knots_sorted n).sublist List.filter_sublist
end Go.Proofs.Ytbkdpnfjcnkoeaa.G
namespace Go.Proofs.Ytbkdpnfjcnkoeaa.P
set_option linter.unusedSimpArgs false
set_option linter.unusedVariables false
open Go.RowKit Go.Proofs.YtbkdpnfjcnkoeaaW.PrintWords Go.Proofs.Ytbkdpnfjcnkoeaa.G
theorem tofSpec_l1 (n a i : Int) (X : List S63) (hX : ok n X) (hi : First n X a i) (out : List Int) (ho : out.length ≤ 1000) (r : List Int × Bool) (hr : Ev (fun k => spec_TrailOf.l0 k (out ++ [i]) i n (cut X (tieOf a i))) r) : ∀ (suf p : List Int),
    p ++ suf = next n X a → i ∈ suf → Ev (fun k => spec_TrailOf.l1 k out a (p ++ suf) (p.length : Int) n X) r := by
  have hXl := ok_len hX
  have hso := next_sorted n X a
  have hnl : ((next n X a).length : Int) < big := by
    have := List.length_filter_le (fun j => decide (tieOf a j ∈ X)) (knots n)
    rw [knots_len] at this
    have := hX.2.1
    unfold big; unfold next; omega
  intro suf
  induction suf with
  | nil => intro p he hm; simp at hm
  | cons t suf ih =>
    intro p he hm
    have hp : (p.length : Int) < big := len_mid (by rw [he]; exact hnl)
    have ht : tieOf a t ∈ X := (mem_next hX.2.2.1).1 (by rw [← he]; simp)
    have hol : out.length < 17592186044416 := by omega
    refine Ev.step (fun k => by simp only [spec_TrailOf.l1, lt_mid, nn, if_true, rd_mid, w_succ (t := t) hp, hol] <;> exact rfl) ?_
    refine Ev.bind (specCut_ev n a t X (by omega)) ?_
    simp only [if_pos (And.intro hX ht)]
    have hcl : ((cut X (tieOf a t)).length : Int) < big := by
      have : (cut X (tieOf a t)).length ≤ X.length := List.length_filter_le _ _
      unfold big; omega
    obtain ⟨b, b1, b2⟩ := tcanSpec n t (cut X (tieOf a t)) hcl
    refine Ev.bind b1 ?_
    cases b with
    | true =>
      have hg : goesTo n X a t := ⟨ht, b2.1 rfl⟩
      have hle := hi.least t hg
      have : t = i := by
        rcases List.mem_cons.1 hm with h | h
        · exact h.symm
        · rw [← he] at hso
          have := (List.pairwise_append.1 hso).2.1
          have := (List.pairwise_cons.1 this).1 i h
          omega
      subst this
      simp only [if_true]
      exact hr
    | false =>
      simp only [Bool.false_eq_true, if_false]
      rw [app_one p t suf]
      refine ih (p ++ [t]) (by rw [← he]; simp) ?_
      rcases List.mem_cons.1 hm with h | h
      · subst h
        have := b2.2 hi.goes.2
        simp at this
      · exact h
theorem tofSpec_l0 (n : Int) {X : List Tie} {a : Int} {row : List Int} (h : Tr n X a row) : ok n X → ∀ (out : List Int), out.length + row.length ≤ 1000 →
    Ev (fun k => spec_TrailOf.l0 k out a n X) (out ++ row, true) := by
  induction h with
  | nil a =>
    intro hX out ho
    refine Ev.step (fun k => by simp [spec_TrailOf.l0] <;> exact rfl) ?_
    exact Ev.val (by simp)
  | @cons X a i r hi hr ih =>
    intro hX out ho
    simp only [List.length_cons] at ho
    have hpos : (X.length : Int) > 0 := by
      have := List.length_pos_of_mem hi.goes.1
      omega
    have e := ih (ok_cut _ hX) (out ++ [i]) (by simp; omega)
    refine Ev.step (fun k => by simp only [spec_TrailOf.l0, if_pos hpos] <;> exact rfl) ?_
    refine Ev.bind (next_ev n a X hX) ?_
    refine Ev.eq (tofSpec_l1 n a i X hX hi out (by omega) _ e (next n X a) [] rfl ((mem_next hX.2.2.1).2 hi.goes.1)) ?_
    simp
theorem tofSpec_yes (n a : Int) (E : List S63) (row : List Int) (h : trailCan n E a) (hr : Tr n E a row) : Ev (fun k => spec_TrailOf.f k n E a) (a :: row, true) := by
  have hEl := ok_len h.1
  have hl := (tr_cuts hr (asc_nodup h.1.2.2.2)).2
  obtain ⟨b, b1, b2⟩ := tcanSpec n a E (by unfold big; omega)
  have : b = true := b2.2 h
  subst this
  unfold spec_TrailOf.f
  simp only [Option.bind_some]
  refine Ev.bind b1 ?_
  have z : ([] : List Int).length < 17592186044416 := by simp
  simp only [if_true, z, copy_eq n E (by omega), Option.bind_some]
  refine Ev.eq (tofSpec_l0 n hr h.1 ([] ++ [a]) (by simp; omega)) ?_
  simp
theorem tofSpec_no (n a : Int) (E : List S63) (hE : (E.length : Int) < big) (h : ¬ trailCan n E a) : Ev (fun k => spec_TrailOf.f k n E a) ([], false) := by
  obtain ⟨b, b1, b2⟩ := tcanSpec n a E hE
  have : b = false := by
    cases b with
    | false => rfl
    | true => exact absurd (b2.1 rfl) h
  subst this
  unfold spec_TrailOf.f
  simp only [Option.bind_some]
  refine Ev.bind b1 ?_
  simp only [Bool.false_eq_true, if_false]
  exact Ev.val rfl
theorem tofSpec_some (n a : Int) (E : List S63) (hE : (E.length : Int) < big) : ∃ (row : List Int) (b : Bool), Ev (fun k => spec_TrailOf.f k n E a) (row, b) ∧ row.length ≤ 100 ∧ (b = true → 1 ≤ row.length) := by
  by_cases h : trailCan n E a
  · obtain ⟨r, hr⟩ := tr_some (n := n) E.length (Nat.le_refl _) h
    have hEl := ok_len h.1
    have hl := (tr_cuts hr (asc_nodup h.1.2.2.2)).2
    exact ⟨a :: r, true, tofSpec_yes n a E r h hr, by simp; omega, fun _ => by simp⟩
  · exact ⟨[], false, tofSpec_no n a E hE h, by simp, fun e => by simp at e⟩
end Go.Proofs.Ytbkdpnfjcnkoeaa.P
