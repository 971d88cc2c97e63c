/- Matchings: what the program and the reference come to when asked whether ties are one. -/
import Derived.Test.YtjkeagcenmmknaaDoorBok
import Derived.Test.YtjkeagcenmmknaaDoorBhs
import Derived.Test.YtjkeagcenmmknaaDoorBhi
import Derived.Test.YtjkeagcenmmknaaDoorBdif
import Derived.Test.YtjkeagcenmmknaaDoorGv
import Derived.Test.YtjkeagcenmmknaaDoorF17
import Derived.Test.YtjkeagcenmmknaaDoorF25
namespace Go.Proofs.YtjkeagcenmmknaaDoor.G
set_option linter.unusedSimpArgs false
set_option linter.unusedVariables false
open Go.RowKit Go.Proofs.YtjkeagcenmmknaaDoorW.PrintWords
def pairOk (n : Int) (E L : List Tie) : Prop := ok n E ∧ (∀ t ∈ L, t ∈ E) ∧ asc L ∧ (verts L).Nodup
instance (n : Int) (E L : List Tie) : Decidable (pairOk n E L) := by unfold pairOk; infer_instance
/-- ties that are there, none with a knot that is taken -/
def free (E : List Tie) : List Int → List Tie → Prop
  | _, [] => True
  | vs, t :: r => t ∈ E ∧ t.f0 ∉ vs ∧ t.f1 ∉ vs ∧ free E (t.f1 :: t.f0 :: vs) r
instance free_dec (E : List Tie) : (vs : List Int) → (l : List Tie) → Decidable (free E vs l)
  | _, [] => isTrue trivial
  | vs, t :: r => by
    have := free_dec E (t.f1 :: t.f0 :: vs) r
    unfold free
    infer_instance
theorem free_iff (E : List Tie) (L : List Tie) : ∀ vs : List Int, (∀ t ∈ L, t.f0 ≠ t.f1) → (free E vs L ↔ (∀ t ∈ L, t ∈ E) ∧ (verts L).Nodup ∧ ∀ v ∈ verts L, v ∉ vs) := by
  induction L with
  | nil => intro vs _; simp [free, verts]
  | cons t r ih =>
    intro vs hne
    have hv : verts (t :: r) = t.f0 :: t.f1 :: verts r := rfl
    have h01 : t.f0 ≠ t.f1 := hne t (List.mem_cons_self)
    unfold free
    rw [ih _ (fun s hs => hne s (List.mem_cons_of_mem _ hs)), hv, List.nodup_cons, List.nodup_cons]
    constructor
    · rintro ⟨h1, h2, h3, h4, h5, h6⟩
      refine ⟨fun s hs => ?_, ⟨?_, ?_, h5⟩, fun v hv' => ?_⟩
      · rcases List.mem_cons.1 hs with rfl | hs
        · exact h1
        · exact h4 s hs
      · intro hm
        rcases List.mem_cons.1 hm with e | hm
        · exact h01 e
        · exact h6 _ hm (by simp)
      · intro hm
        exact h6 _ hm (by simp)
      · rcases List.mem_cons.1 hv' with rfl | hv'
        · exact h2
        · rcases List.mem_cons.1 hv' with rfl | hv'
          · exact h3
          · exact fun hvs => h6 v hv' (by simp [hvs])
    · rintro ⟨h1, ⟨h2, h3, h4⟩, h5⟩
      refine ⟨h1 t (List.mem_cons_self), h5 _ (by simp), h5 _ (by simp), fun s hs => h1 s (List.mem_cons_of_mem _ hs), h4, fun v hv' hm => ?_⟩
      rcases List.mem_cons.1 hm with rfl | hm
      · exact h3 hv'
      · rcases List.mem_cons.1 hm with rfl | hm
        · exact h2 (List.mem_cons_of_mem _ hv')
        · exact h5 v (by simp [hv']) hm
end Go.Proofs.YtjkeagcenmmknaaDoor.G
namespace Go.Proofs.YtjkeagcenmmknaaDoor.P
set_option linter.unusedSimpArgs false
set_option linter.unusedVariables false
open Go.RowKit Go.Proofs.YtjkeagcenmmknaaDoorW.PrintWords Go.Proofs.YtjkeagcenmmknaaDoor.G
theorem pairSpec_l0 (n : Int) (E : List S51) (h0 : 0 ≤ n) (hE : (E.length : Int) < big) : ∀ (suf p : List S51) (vs : List Int), ((p ++ suf).length : Int) < big → (∀ t ∈ suf, inr n t) →
    Ev (fun k => spec_PairOk.l0 k (p ++ suf) (flags n vs) (p.length : Int) n E) (decide (free E vs suf)) := by
  intro suf
  induction suf with
  | nil =>
    intro p vs hb hi
    refine Ev.step (fun k => by simp only [spec_PairOk.l0, nlt_end, if_false] <;> exact rfl) ?_
    exact Ev.val (congrArg some (decide_eq_true (by simp [free])).symm)
  | cons t suf ih =>
    intro p vs hb hi
    have hp : (p.length : Int) < big := len_mid hb
    have ht : inr n t := hi t (List.mem_cons_self)
    have ht' := ht
    unfold inr at ht'
    have b1 : 0 ≤ t.f0 := ht'.1
    have b2 : t.f0 < n := by omega
    have b3 : 0 ≤ t.f1 := by omega
    have b4 : t.f1 < n := ht'.2.2
    refine Ev.step (fun k => by simp only [spec_PairOk.l0, lt_mid, nn, if_true, rdH_mid, w_succ (t := t) hp, b1, b3, flags_len n vs h0, b2, b4, flags_rd b1 b2, flags_rd b3 b4, flags_set b1 b2, flags_set b3 b4, decide_eq_true_eq] <;> exact rfl) ?_
    refine Ev.bind (l1Has_ev n _ _ E hE) ?_
    rw [tieOf_inr ht]
    by_cases c : t ∈ E
    · simp only [c, decide_true, if_true]
      by_cases c1 : t.f0 ∈ vs
      · simp only [if_pos c1]
        exact Ev.val (congrArg some (decide_eq_false (by simp [free, c1])).symm)
      · simp only [if_neg c1]
        by_cases c2 : t.f1 ∈ vs
        · simp only [if_pos c2]
          exact Ev.val (congrArg some (decide_eq_false (by simp [free, c2])).symm)
        · simp only [if_neg c2]
          rw [app_one p t suf]
          refine Ev.eq (ih (p ++ [t]) (t.f1 :: t.f0 :: vs) (len_app hb) (fun s hs => hi s (List.mem_cons_of_mem _ hs))) ?_
          rw [decide_eq_decide]
          simp [free, c, c1, c2]
    · simp only [c, decide_false, Bool.false_eq_true, if_false]
      exact Ev.val (congrArg some (decide_eq_false (by simp [free, c])).symm)
theorem pairOk_iff {n : Int} {E L : List Tie} (hE : ok n E) : pairOk n E L ↔ ok n L ∧ free E [] L := by
  constructor
  · rintro ⟨_, h1, h2, h3⟩
    have hi : ∀ t ∈ L, inr n t := fun t ht => hE.2.2.1 t (h1 t ht)
    exact ⟨⟨hE.1, hE.2.1, hi, h2⟩, (free_iff E L [] (fun t ht => by have := (hi t ht).2.1; omega)).2 ⟨h1, h3, by simp⟩⟩
  · rintro ⟨h1, h2⟩
    obtain ⟨a, b, _⟩ := (free_iff E L [] (fun t ht => by have := (h1.2.2.1 t ht).2.1; omega)).1 h2
    exact ⟨hE, a, h1.2.2.2, b⟩
theorem pairSpec (n : Int) (E L : List S51) (hE : (E.length : Int) < big) (hL : (L.length : Int) < big) : Ev (fun k => spec_PairOk.f k n E L) (decide (pairOk n E L)) := by
  unfold spec_PairOk.f
  refine Ev.bind (specOk n E hE) ?_
  by_cases c : ok n E
  · simp only [c, decide_true, if_true]
    refine Ev.bind (specOk n L hL) ?_
    by_cases d : ok n L
    · have h0 : 0 ≤ n := c.1
      have h1 : n.toNat ≤ 281474976710656 := by have := c.2.1; omega
      refine Ev.step (fun k => by simp only [spec_PairOk.j0, d, decide_true, Bool.not_true, Bool.false_eq_true, if_false, h0, h1, if_true, flags_none] <;> exact rfl) ?_
      refine Ev.eq (pairSpec_l0 n E h0 hE L [] [] hL d.2.2.1) ?_
      rw [decide_eq_decide, pairOk_iff c]
      simp [d]
    · refine Ev.step (fun k => by simp only [spec_PairOk.j0, d, decide_false, Bool.not_false, if_true] <;> exact rfl) ?_
      exact Ev.val (congrArg some (decide_eq_false (by rw [pairOk_iff c]; simp [d])).symm)
  · simp only [c, decide_false, Bool.false_eq_true, if_false]
    refine Ev.step (fun k => by simp only [spec_PairOk.j0, if_true] <;> exact rfl) ?_
    exact Ev.val (congrArg some (decide_eq_false (by simp [pairOk, c])).symm)

theorem own_l0 (n : Int) (E L : List S51) (hE : (E.length : Int) < big) (hL : (L.length : Int) < big) : ∀ (suf p : List S51), ((p ++ suf).length : Int) < big →
    Ev (fun k => impl_Net_own.l0 k L (p ++ suf) ((p ++ suf).length : Int) (p.length : Int) n E) (decide ((∀ t ∈ suf, t ∈ E) ∧ asc L)) := by
  intro suf
  induction suf with
  | nil =>
    intro p hb
    refine Ev.step (fun k => by simp only [impl_Net_own.l0, nlt_end, if_false] <;> exact rfl) ?_
    refine Ev.bind (ascending_ev L hL) ?_
    exact Ev.val (by simp)
  | cons t suf ih =>
    intro p hb
    have hp : (p.length : Int) < big := len_mid hb
    refine Ev.step (fun k => by simp only [impl_Net_own.l0, lt_mid, nn, if_true, rdH_mid, w_succ (t := t) hp] <;> exact rfl) ?_
    refine Ev.bind (containsTie_ev E _ _ hE) ?_
    by_cases c : t ∈ E
    · have c' : (⟨t.f0, t.f1⟩ : Tie) ∈ E := c
      simp only [c', decide_true, if_true]
      rw [app_one p t suf]
      refine Ev.eq (ih (p ++ [t]) (len_app hb)) ?_
      rw [decide_eq_decide]
      simp [c]
    · have c' : ¬ (⟨t.f0, t.f1⟩ : Tie) ∈ E := c
      simp only [c', decide_false, Bool.false_eq_true, if_false]
      exact Ev.val (congrArg some (decide_eq_false (by simp [c])).symm)
theorem own_ev (n : Int) (E L : List S51) (hE : (E.length : Int) < big) (hL : (L.length : Int) < big) : Ev (fun k => impl_Net_own.f k n E L) (decide ((∀ t ∈ L, t ∈ E) ∧ asc L)) := by
  unfold impl_Net_own.f
  exact own_l0 n E L hE hL L [] hL
theorem verts_app (p : List Tie) (t : Tie) : verts (p ++ [t]) = verts p ++ [t.f0, t.f1] := by simp [verts]
theorem verts_len (p : List Tie) : (verts p).length = 2 * p.length := by
  induction p with
  | nil => rfl
  | cons t r ih =>
    have : verts (t :: r) = t.f0 :: t.f1 :: verts r := rfl
    rw [this]; simp [ih]; omega
theorem pairImpl_l0 : ∀ (suf p : List S51), ((p ++ suf).length : Int) ≤ 1048576 →
    Ev (fun k => impl_PairOk.l0 k (verts p) (p ++ suf) ((p ++ suf).length : Int) (p.length : Int)) (decide (verts (p ++ suf)).Nodup) := by
  intro suf
  induction suf with
  | nil =>
    intro p hb
    refine Ev.step (fun k => by simp only [impl_PairOk.l0, nlt_end, if_false] <;> exact rfl) ?_
    refine Ev.bind (different_ev _ (by rw [verts_len]; simp at hb; unfold big; omega)) ?_
    exact Ev.val (by simp)
  | cons t suf ih =>
    intro p hb
    have hb' : ((p ++ t :: suf).length : Int) < big := by unfold big; omega
    have hp : (p.length : Int) < big := len_mid hb'
    have hl : (verts p).length + ([t.f0, t.f1] : List Int).length < 17592186044416 := by
      rw [verts_len]; simp at hb ⊢; omega
    refine Ev.step (fun k => by simp only [impl_PairOk.l0, lt_mid, nn, if_true, rdH_mid, w_succ (t := t) hp, Option.bind_some, hl, ← verts_app] <;> exact rfl) ?_
    rw [app_one p t suf]
    exact ih (p ++ [t]) (by rw [← app_one]; exact hb)
theorem pairImpl (n : Int) (E L : List S51) (hE : (E.length : Int) < big) (hL : (L.length : Int) ≤ 1048576) : Ev (fun k => impl_PairOk.f k n E L) (decide (pairOk n E L)) := by
  unfold impl_PairOk.f
  refine Ev.bind (implOk n E hE) ?_
  by_cases c : ok n E
  · simp only [c, decide_true, if_true]
    refine Ev.bind (own_ev n E L hE (by unfold big; omega)) ?_
    by_cases d : (∀ t ∈ L, t ∈ E) ∧ asc L
    · have e : (!decide ((∀ t ∈ L, t ∈ E) ∧ asc L)) = false := by rw [decide_eq_true d]; rfl
      refine Ev.step (fun k => by simp only [impl_PairOk.j0, e, Bool.false_eq_true, if_false] <;> exact rfl) ?_
      refine Ev.eq (pairImpl_l0 L [] hL) ?_
      rw [decide_eq_decide]
      unfold pairOk
      exact ⟨fun h => ⟨c, d.1, d.2, h⟩, fun h => h.2.2.2⟩
    · have e : (!decide ((∀ t ∈ L, t ∈ E) ∧ asc L)) = true := by simp only [d, decide_false, Bool.not_false]
      refine Ev.step (fun k => by simp only [impl_PairOk.j0, e, if_true] <;> exact rfl) ?_
      exact Ev.val (congrArg some (decide_eq_false (fun h => d ⟨h.2.1, h.2.2.1⟩)).symm)
  · simp only [c, decide_false, Bool.false_eq_true, if_false]
    refine Ev.step (fun k => by simp only [impl_PairOk.j0, if_true] <;> exact rfl) ?_
    exact Ev.val (congrArg some (decide_eq_false (by simp [pairOk, c])).symm)
end Go.Proofs.YtjkeagcenmmknaaDoor.P
