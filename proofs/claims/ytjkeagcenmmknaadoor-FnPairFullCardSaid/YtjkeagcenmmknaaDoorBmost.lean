/- What the program and the reference come to when asked how many pairs there are at most. -/
import Derived.Test.YtjkeagcenmmknaaDoorBok
import Derived.Test.YtjkeagcenmmknaaDoorGsz
import Derived.Test.YtjkeagcenmmknaaDoorF4
import Derived.Test.YtjkeagcenmmknaaDoorF6
namespace Go.Proofs.YtjkeagcenmmknaaDoor.P
set_option linter.unusedSimpArgs false
set_option linter.unusedVariables false
open Go.RowKit Go.Proofs.YtjkeagcenmmknaaDoorW.PrintWords Go.Proofs.YtjkeagcenmmknaaDoor.G
/-- how many pairs a net has at most; -1 of what is none -/
def sizeOf (n : Int) (E : List Tie) : Int := if ok n E then (most E [] : Int) else -1
theorem ok_good {n : Int} {E : List Tie} (h : ok n E) : szGood E := fun t ht => by have := h.2.2.1 t ht; have := h.2.1; unfold inr at *; omega
theorem size_eq {n : Int} {E : List S51} (h : ok n E) : impl_size.f E = some (most E [] : Int) := szOf_eq E (by have := ok_len h; unfold big; omega) (ok_good h)
theorem sizeImpl (n : Int) (E : List S51) (hb : (E.length : Int) < big) : Ev (fun k => impl_PairSize.f k n E) (sizeOf n E) := by
  unfold impl_PairSize.f sizeOf
  refine Ev.bind (implOk n E hb) ?_
  by_cases h : ok n E
  · simp only [decide_eq_true h, if_true, if_pos h, size_eq h, Option.bind_some]
    exact Ev.val rfl
  · simp only [decide_eq_false h, Bool.false_eq_true, if_false, if_neg h]
    exact Ev.val rfl
theorem l24_ev (n : Int) (E : List S51) (hok : ok n E) : ∀ (suf pre : List S51) (vs : List Int), E = pre ++ suf → Ev (fun k => spec_l24Most.f k n E (pre.length : Int) (flags n vs)) (most suf vs : Int) := by
  intro suf
  induction suf with
  | nil =>
    intro pre vs he
    have c : (pre.length : Int) ≥ (E.length : Int) := by rw [he]; simp
    refine Ev.step (fun k => by simp only [spec_l24Most.f, if_pos c] <;> exact rfl) ?_
    exact Ev.val rfl
  | cons t suf ih =>
    intro pre vs he
    have h64 := ok_len hok
    have ht := hok.2.2.1 t (by rw [he]; simp)
    unfold inr at ht
    have n8 := hok.2.1
    have el : E.length = pre.length + suf.length + 1 := by rw [he]; simp; omega
    have c : ¬ (pre.length : Int) ≥ (E.length : Int) := by omega
    have c1 : (pre.length : Int) < (E.length : Int) := by omega
    have e1 : E = (pre ++ [t]) ++ suf := by rw [he]; simp
    have w1 : wrap64 ((pre.length : Int) + 1) = ((pre ++ [t]).length : Int) := w_succ (by unfold big; omega)
    have rt : rd_T51 E (pre.length : Int) = t := by rw [he]; exact rdI_mid pre t suf
    have fl : ((flags n vs).length : Int) = n := flags_len n vs (by omega)
    have f0 : t.f0 < ((flags n vs).length : Int) := by omega
    have f1 : t.f1 < ((flags n vs).length : Int) := by omega
    have r0 : rdOf false (flags n vs) t.f0 = decide (t.f0 ∈ vs) := flags_rd (by omega) (by omega)
    have r1 : rdOf false (flags n vs) t.f1 = decide (t.f1 ∈ vs) := flags_rd (by omega) (by omega)
    have p0 : 0 ≤ t.f0 := ht.1
    have p1 : 0 ≤ t.f1 := by omega
    refine Ev.step (fun k => by simp only [spec_l24Most.f, if_neg c, w1, nn, if_true, if_pos c1, rt, if_pos p0, if_pos p1, if_pos f0, if_pos f1, r0, r1] <;> exact rfl) ?_
    refine Ev.bind (ih (pre ++ [t]) vs e1) ?_
    have stop : t.f0 ∈ vs ∨ t.f1 ∈ vs → Ev (fun k => spec_l24Most.j0 k (pre.length : Int) (flags n vs) (most suf vs : Int) true n E t.f0 t.f1) (most (t :: suf) vs : Int) := fun o => by
      refine Ev.step (fun k => by simp only [spec_l24Most.j0, if_true] <;> exact rfl) (Ev.val ?_)
      rw [show most (t :: suf) vs = (if t.f0 ∈ vs ∨ t.f1 ∈ vs then most suf vs else max (most suf vs) (1 + most suf (t.f1 :: t.f0 :: vs))) from rfl, if_pos o]
    by_cases a : t.f0 ∈ vs
    · simp only [decide_eq_true a, if_true]
      exact stop (Or.inl a)
    simp only [decide_eq_false a, Bool.false_eq_true, if_false]
    by_cases b : t.f1 ∈ vs
    · simp only [decide_eq_true b]
      exact stop (Or.inr b)
    simp only [decide_eq_false b]
    have z : ([] : List Bool).length + (flags n vs).length < 140737488355328 := by simp only [List.length_nil]; omega
    have fl2 : (([] : List Bool) ++ flags n vs).length = (flags n vs).length := by simp
    have g0 : t.f0 < ((([] : List Bool) ++ flags n vs).length : Int) := by rw [fl2]; omega
    have g1 : t.f1 < ((([] : List Bool) ++ flags n vs).length : Int) := by rw [fl2]; omega
    have mk : ((([] : List Bool) ++ flags n vs).set t.f0.toNat true).set t.f1.toNat true = flags n (t.f1 :: t.f0 :: vs) := by
      rw [List.nil_append, flags_set (by omega) (by omega), flags_set (by omega) (by omega)]
    have ml := most_len suf (t.f1 :: t.f0 :: vs)
    have w2 : wrap64 (1 + (most suf (t.f1 :: t.f0 :: vs) : Int)) = 1 + (most suf (t.f1 :: t.f0 :: vs) : Int) := w64 (by omega) (by omega)
    refine Ev.step (fun k => by simp only [spec_l24Most.j0, Bool.false_eq_true, if_false, Option.bind_some, if_pos z, if_pos p0, if_pos p1, if_pos g0, if_pos g1, mk, w1] <;> exact rfl) ?_
    refine Ev.bind (ih (pre ++ [t]) (t.f1 :: t.f0 :: vs) e1) ?_
    simp only [w2]
    have un : most (t :: suf) vs = max (most suf vs) (1 + most suf (t.f1 :: t.f0 :: vs)) := by
      show (if t.f0 ∈ vs ∨ t.f1 ∈ vs then most suf vs else max (most suf vs) (1 + most suf (t.f1 :: t.f0 :: vs))) = _
      rw [if_neg (by intro o; rcases o with o | o; exact a o; exact b o)]
    rw [un]
    generalize most suf (t.f1 :: t.f0 :: vs) = a2
    generalize most suf vs = b2
    by_cases d : 1 + (a2 : Int) > (b2 : Int)
    · simp only [if_pos d]
      have e : 1 + (a2 : Int) = ((max b2 (1 + a2) : Nat) : Int) := by omega
      exact Ev.val (by rw [e])
    · simp only [if_neg d]
      have e : (b2 : Int) = ((max b2 (1 + a2) : Nat) : Int) := by omega
      exact Ev.val (by rw [← e])
theorem sizeSpec (n : Int) (E : List S51) (hb : (E.length : Int) < big) : Ev (fun k => spec_PairSize.f k n E) (sizeOf n E) := by
  unfold spec_PairSize.f sizeOf
  refine Ev.bind (specOk n E hb) ?_
  by_cases h : ok n E
  · have n0 := h.1
    have n8 := h.2.1
    have z : n.toNat ≤ 281474976710656 := by omega
    simp only [decide_eq_true h, if_true, if_pos h, if_pos n0, if_pos z, flags_none]
    exact Ev.bind (l24_ev n E h E [] [] rfl) (Ev.val rfl)
  · simp only [decide_eq_false h, Bool.false_eq_true, if_false, if_neg h]
    exact Ev.val rfl
theorem sizeOf_range (n : Int) (E : List Tie) : -1 ≤ sizeOf n E ∧ sizeOf n E ≤ 64 := by
  unfold sizeOf
  split
  · rename_i h
    have := ok_len h
    have := most_len E []
    omega
  · omega
end Go.Proofs.YtjkeagcenmmknaaDoor.P
