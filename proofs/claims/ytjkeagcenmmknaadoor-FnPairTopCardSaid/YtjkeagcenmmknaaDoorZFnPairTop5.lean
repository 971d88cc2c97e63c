/- The proof's parts ahead of the row: of no condition of their own. -/
import Derived.Test.YtjkeagcenmmknaaDoorZFnPairTop4
import Derived.Deep.Slices
import Derived.ProofKit
import Derived.Test.YtjkeagcenmmknaaDoorRows
import Derived.LaidMore
import Derived.LaidHandle
import Derived.OpenShut
import Derived.Lib.LaidTab
import Derived.Stop.LaidErr
import Derived.Stop.Joined
set_option linter.unusedVariables false
set_option linter.unusedSimpArgs false
namespace Go.Proofs.YtjkeagcenmmknaaDoor.G
open Go.RowKit Go.Proofs.YtjkeagcenmmknaaDoorW.PrintWords
abbrev big : Int := 4611686018427387904
theorem w64 {x : Int} (h0 : -9223372036854775808 ≤ x) (h1 : x ≤ 9223372036854775807) : wrap64 x = x := by
 unfold wrap64
 omega
theorem lt_mid {α : Type} (pre : List α) (t : α) (suf : List α) : (pre.length : Int) < ((pre ++ t :: suf).length : Int) := by
 simp; omega
theorem nlt_end {α : Type} (pre : List α) : ¬ (pre.length : Int) < ((pre ++ []).length : Int) := by
 simp
theorem nn (n : Nat) : 0 ≤ (n : Int) := Int.natCast_nonneg n
theorem app_one {α : Type} (pre : List α) (t : α) (suf : List α) : pre ++ t :: suf = (pre ++ [t]) ++ suf := by simp
theorem w_succ {α : Type} {pre : List α} {t : α} (h : (pre.length : Int) < big) : wrap64 ((pre.length : Int) + 1) = ((pre ++ [t]).length : Int) := by
 rw [w64 (by omega) (by unfold big at h; omega)]; simp
theorem getD_mid {α : Type} (pre : List α) (t : α) (suf : List α) (d : α) : (pre ++ t :: suf).getD ((pre.length : Int)).toNat d = t := by
 simp [List.getD]
theorem rd_mid (pre : List Int) (t : Int) (suf : List Int) : rd (pre ++ t :: suf) (pre.length : Int) = t := by
 unfold rd; exact getD_mid pre t suf 0
theorem len_mid {α : Type} {pre : List α} {t : α} {suf : List α} (h : ((pre ++ t :: suf).length : Int) < big) : (pre.length : Int) < big := by
 simp at h; unfold big at *; omega
theorem len_app {α : Type} {pre : List α} {t : α} {suf : List α} (h : ((pre ++ t :: suf).length : Int) < big) : (((pre ++ [t]) ++ suf).length : Int) < big := by
 rw [← app_one]; exact h
theorem Ev.val {α : Type} {a : Option α} {r : α} (h : a = some r) : Ev (fun _ => a) r := ⟨0, fun _ _ => h⟩
theorem Ev.eq {α : Type} {g : Nat → Option α} {r s : α} (h : Ev g r) (e : r = s) : Ev g s := e ▸ h
theorem Ev.unique {α : Type} {g : Nat → Option α} {r s : α} (h : Ev g r) (k : Ev g s) : r = s := by
 obtain ⟨K, h⟩ := h
 obtain ⟨L, k⟩ := k
 have := (h (max K L) (by omega)).symm.trans (k (max K L) (by omega))
 injection this
def tlt (s t : Tie) : Prop := s.f0 < t.f0 ∨ s.f0 = t.f0 ∧ s.f1 < t.f1
instance (s t : Tie) : Decidable (tlt s t) := by unfold tlt; infer_instance
def inr (n : Int) (t : Tie) : Prop := 0 ≤ t.f0 ∧ t.f0 < t.f1 ∧ t.f1 < n
instance (n : Int) (t : Tie) : Decidable (inr n t) := by unfold inr; infer_instance
def asc : List Tie → Prop
 | [] => True
 | [_] => True
 | a :: b :: r => tlt a b ∧ asc (b :: r)
instance asc_dec : (l : List Tie) → Decidable (asc l)
 | [] => isTrue trivial
 | [_] => isTrue trivial
 | a :: b :: r => by
  have := asc_dec (b :: r)
  unfold asc
  infer_instance
def ok (n : Int) (E : List Tie) : Prop := 0 ≤ n ∧ n ≤ 8 ∧ (∀ t ∈ E, inr n t) ∧ asc E
instance (n : Int) (E : List Tie) : Decidable (ok n E) := by unfold ok; infer_instance
theorem tlt_trans {a b c : Tie} (h : tlt a b) (k : tlt b c) : tlt a c := by
 unfold tlt at *; omega
theorem asc_cons {a : Tie} {l : List Tie} : asc (a :: l) ↔ (∀ t ∈ l, tlt a t) ∧ asc l := by
 induction l generalizing a with
 | nil => simp [asc]
 | cons b r ih =>
  constructor
  ·intro h
   obtain ⟨h1, h2⟩ := h
   refine ⟨fun t ht => ?_, h2⟩
   rcases List.mem_cons.1 ht with rfl | ht
   ·exact h1
   ·exact tlt_trans h1 ((ih.1 h2).1 t ht)
  ·rintro ⟨h1, h2⟩
   exact ⟨h1 b (List.mem_cons_self), h2⟩
theorem asc_pairwise {l : List Tie} : asc l ↔ l.Pairwise tlt := by
 induction l with
 | nil => simp [asc]
 | cons a l ih => rw [asc_cons, List.pairwise_cons, ih]
theorem asc_sublist {l m : List Tie} (h : asc m) (s : l.Sublist m) : asc l := by
 rw [asc_pairwise] at *; exact h.sublist s
theorem asc_filter {l : List Tie} (p : Tie → Bool) (h : asc l) : asc (l.filter p) := asc_sublist h List.filter_sublist
theorem ok_filter {n : Int} {E : List Tie} (p : Tie → Bool) (h : ok n E) : ok n (E.filter p) :=
 ⟨h.1, h.2.1, fun t ht => h.2.2.1 t (List.mem_filter.1 ht).1, asc_filter p h.2.2.2⟩
theorem ok_sublist {n : Int} {E F : List Tie} (h : ok n E) (s : F.Sublist E) : ok n F :=
 ⟨h.1, h.2.1, fun t ht => h.2.2.1 t (s.subset ht), asc_sublist h.2.2.2 s⟩
theorem asc_len {l : List Tie} (lo : Int) (hl : ∀ t ∈ l, 0 ≤ t.f0 ∧ t.f0 < 8 ∧ 0 ≤ t.f1 ∧ t.f1 < 8) (h : asc l) (hlo : ∀ t ∈ l, lo ≤ t.f0 * 8 + t.f1) (h64 : lo ≤ 64) : (l.length : Int) ≤ 64 - lo := by
 induction l generalizing lo with
 | nil => simp; omega
 | cons a r ih =>
  obtain ⟨h1, h2⟩ := asc_cons.1 h
  have ha := hlo a (List.mem_cons_self)
  have hb := hl a (List.mem_cons_self)
  have := ih (a.f0 * 8 + a.f1 + 1) (fun t ht => hl t (List.mem_cons_of_mem _ ht)) h2 (fun t ht => by
   have := h1 t ht
   have hc := hl t (List.mem_cons_of_mem _ ht)
   unfold tlt at this; omega) (by omega)
  simp only [List.length_cons]
  omega
theorem ok_len {n : Int} {E : List Tie} (h : ok n E) : (E.length : Int) ≤ 64 := by
 have := asc_len (l := E) 0 (fun t ht => by have := h.2.2.1 t ht; have := h.2.1; unfold inr at *; omega) h.2.2.2 (fun t ht => by have := h.2.2.1 t ht; unfold inr at this; omega) (by omega)
 omega
end Go.Proofs.YtjkeagcenmmknaaDoor.G
namespace Go.Proofs.YtjkeagcenmmknaaDoor.P
open Go.RowKit Go.Proofs.YtjkeagcenmmknaaDoorW.PrintWords Go.Proofs.YtjkeagcenmmknaaDoor.G
theorem rdI_mid (pre : List S51) (t : S51) (suf : List S51) : rd_T51 (pre ++ t :: suf) (pre.length : Int) = t := by
  unfold rd_T51; exact getD_mid pre t suf _
theorem in_eq (a b c : Int) : spec_l6In.f a b c = some (decide (b ≤ a ∧ a ≤ c)) := by
  unfold spec_l6In.f
  by_cases h : b ≤ a <;> simp [h]
theorem less_eq (a b c d : Int) : spec_l1Less.f a b c d = some (decide (tlt ⟨a, b⟩ ⟨c, d⟩)) := by
  unfold spec_l1Less.f tlt
  by_cases h : a < c
  · simp [h]
  · by_cases h2 : a = c <;> simp [h, h2]
theorem len_pred {α : Type} (p : List α) (q : α) (h : ((p ++ [q]).length : Int) < big) : wrap64 (((p ++ [q]).length : Int) - 1) = (p.length : Int) := by
  rw [w64 (by rw [List.length_append]; omega) (by unfold big at h; omega)]; simp
theorem mid_one {α : Type} (p : List α) (q : α) (suf : List α) : p ++ [q] ++ suf = p ++ q :: suf := by simp
theorem lt_mid2 {α : Type} (p : List α) (q : α) (suf : List α) : (p.length : Int) < ((p ++ [q] ++ suf).length : Int) := by simp; omega
theorem specOk_l0 (n : Int) (h0 : 0 ≤ n) (h8 : n ≤ 8) : ∀ (suf p : List S51) (q : S51), (((p ++ [q]) ++ suf).length : Int) < big →
    Ev (fun k => spec_NetOk.l0 k ((p ++ [q]).length : Int) n ((p ++ [q]) ++ suf)) (decide ((∀ t ∈ suf, inr n t) ∧ asc (q :: suf))) := by
  intro suf
  induction suf with
  | nil =>
    intro p q hb
    refine Ev.step (fun k => by simp only [spec_NetOk.l0, nlt_end, if_false] <;> exact rfl) ?_
    exact Ev.val (congrArg some (decide_eq_true (by simp [asc])).symm)
  | cons t suf ih =>
    intro p q hb
    have hp : ((p ++ [q]).length : Int) < big := len_mid hb
    have e1 : ((p ++ [q]).length : Int) > 0 := by rw [List.length_append, List.length_singleton]; omega
    refine Ev.step (fun k => by simp only [spec_NetOk.l0, lt_mid, nn, if_true, rdI_mid, in_eq, less_eq, Option.bind_some, e1, len_pred p q hp, lt_mid2, w_succ (t := t) hp] <;> exact rfl) ?_
    have e2 : rd_T51 (p ++ [q] ++ t :: suf) (p.length : Int) = q := by rw [mid_one]; exact rdI_mid p q _
    simp only [e2, decide_eq_true_eq]
    rw [w64 (by omega) (by omega)]
    by_cases c1 : 0 ≤ t.f0 ∧ t.f0 ≤ n - 1
    · simp only [if_pos c1]
      rw [w64 (by omega) (by omega)]
      by_cases c2 : t.f0 + 1 ≤ t.f1 ∧ t.f1 ≤ n - 1
      · simp only [if_pos c2]
        have ht : inr n t := by unfold inr; omega
        by_cases c3 : tlt q t
        · simp only [if_pos c3]
          rw [app_one (p ++ [q]) t suf]
          refine Ev.eq (ih (p ++ [q]) t (len_app hb)) ?_
          rw [decide_eq_decide]
          simp [asc, ht, c3]
        · simp only [if_neg c3]
          exact Ev.val (by simp [asc, c3])
      · simp only [if_neg c2]
        refine Ev.val ?_
        have : ¬ inr n t := by unfold inr; omega
        simp [this]
    · simp only [if_neg c1]
      refine Ev.val ?_
      have : ¬ inr n t := by unfold inr; omega
      simp [this]
theorem specOk (n : Int) (E : List S51) (hb : (E.length : Int) < big) : Ev (fun k => spec_NetOk.f k n E) (decide (ok n E)) := by
  unfold spec_NetOk.f
  simp only [in_eq, Option.bind_some, decide_eq_true_eq]
  by_cases c1 : 0 ≤ n ∧ n ≤ 8
  · simp only [if_pos c1]
    by_cases c2 : (E.length : Int) > 64
    · refine Ev.step (fun k => by simp only [spec_NetOk.j0, c2, decide_true, if_true] <;> exact rfl) ?_
      exact Ev.val (by rw [decide_eq_false (fun h => by have := ok_len h; omega)])
    · refine Ev.step (fun k => by simp only [spec_NetOk.j0, c2, decide_false, Bool.false_eq_true, if_false] <;> exact rfl) ?_
      cases E with
      | nil =>
        refine Ev.step (fun k => by simp [spec_NetOk.l0] <;> exact rfl) ?_
        exact Ev.val (by simp [ok, asc, c1])
      | cons t suf =>
        have l1 : (0 : Int) < ((t :: suf).length : Int) := by rw [List.length_cons]; omega
        have r1 : rd_T51 (t :: suf) 0 = t := rfl
        have h0 : (0 : Int) ≤ 0 := Int.le_refl 0
        have w1 : wrap64 (0 + 1) = 1 := w64 (by omega) (by omega)
        have g1 : ¬ (0 : Int) > 0 := by omega
        refine Ev.step (fun k => by simp only [spec_NetOk.l0, l1, h0, if_true, r1, in_eq, Option.bind_some, w1, g1, if_false, decide_eq_true_eq] <;> exact rfl) ?_
        rw [w64 (by omega) (by omega)]
        by_cases d1 : 0 ≤ t.f0 ∧ t.f0 ≤ n - 1
        · simp only [if_pos d1]
          rw [w64 (by omega) (by omega)]
          by_cases d2 : t.f0 + 1 ≤ t.f1 ∧ t.f1 ≤ n - 1
          · simp only [if_pos d2]
            have ht : inr n t := by unfold inr; omega
            refine Ev.eq (specOk_l0 n c1.1 c1.2 suf [] t hb) ?_
            rw [decide_eq_decide]
            simp [ok, c1, ht]
          · simp only [if_neg d2]
            refine Ev.val ?_
            have : ¬ inr n t := by unfold inr; omega
            simp [this, ok]
        · simp only [if_neg d1]
          refine Ev.val ?_
          have : ¬ inr n t := by unfold inr; omega
          simp [this, ok]
  · simp only [if_neg c1]
    refine Ev.step (fun k => by simp only [spec_NetOk.j0, if_true] <;> exact rfl) ?_
    refine Ev.val ?_
    have : ¬ ok n E := fun h => c1 ⟨h.1, h.2.1⟩
    simp [this]
def cmp3 (x y : Int) : Int := if x < y then -1 else if y < x then 1 else 0
theorem cmp_eq (a b : Int) : cmp_Compare_int.f a b = some (cmp3 a b) := by
  unfold cmp_Compare_int.f cmp3
  simp only [cmp_isNaN_int.f, bne_self_eq_false, Option.bind_some, Bool.false_eq_true, if_false]
  repeat' split
  all_goals first | rfl | omega
def ord (a b c d : Int) : Int := if cmp3 a c = 0 then cmp3 b d else cmp3 a c
theorem ord_neg (a b c d : Int) : ord a b c d ≥ 0 ↔ ¬ tlt ⟨a, b⟩ ⟨c, d⟩ := by
  unfold ord cmp3 tlt
  simp only
  repeat' split
  all_goals omega
theorem or_two (x y : Int) : Ev (fun k => cmp_Or_int.f k [x, y]) (if x = 0 then y else x) := by
  unfold cmp_Or_int.f
  have l : (([x, y] : List Int).length : Int) = 2 := rfl
  have r0 : rd [x, y] 0 = x := rfl
  have r1 : rd [x, y] 1 = y := rfl
  have h0 : (0 : Int) ≤ 0 := Int.le_refl 0
  have a1 : (0 : Int) ≤ 1 := by omega
  have a2 : (0 : Int) < 2 := by omega
  have a3 : (1 : Int) < 2 := by omega
  have a4 : ¬ (2 : Int) < 2 := by omega
  have w1 : wrap64 (0 + 1) = 1 := w64 (by omega) (by omega)
  have w2 : wrap64 (1 + 1) = 2 := w64 (by omega) (by omega)
  refine Ev.step (fun k => by simp only [cmp_Or_int.l0, l, r0, h0, a2, if_true, w1] <;> exact rfl) ?_
  by_cases c : x = 0
  · simp only [if_pos c]
    refine Ev.step (fun k => by simp only [cmp_Or_int.l0, l, r1, a1, a3, if_true, w2] <;> exact rfl) ?_
    by_cases d : y = 0
    · simp only [if_pos d]
      refine Ev.step (fun k => by simp only [cmp_Or_int.l0, a4, if_false] <;> exact rfl) ?_
      exact Ev.val (by rw [d])
    · simp only [if_neg d]
      exact Ev.val rfl
  · simp only [if_neg c]
    exact Ev.val rfl
theorem order_ev (a b c d : Int) : Ev (fun k => impl_tieOrder.f k a b c d) (ord a b c d) := by
  unfold impl_tieOrder.f
  simp only [cmp_eq, Option.bind_some]
  exact Ev.bind (or_two _ _) (Ev.val rfl)
theorem ascending_l0 : ∀ (suf p : List S51) (q : S51), (((p ++ [q]) ++ suf).length : Int) < big →
    Ev (fun k => impl_ascending.l0 k ((p ++ [q]) ++ suf) ((p ++ [q]).length : Int)) (decide (asc (q :: suf))) := by
  intro suf
  induction suf with
  | nil =>
    intro p q hb
    refine Ev.step (fun k => by simp only [impl_ascending.l0, nlt_end, if_false] <;> exact rfl) ?_
    exact Ev.val (congrArg some (decide_eq_true (by simp [asc])).symm)
  | cons t suf ih =>
    intro p q hb
    have hp : ((p ++ [q]).length : Int) < big := len_mid hb
    have e2 : rd_T51 (p ++ [q] ++ t :: suf) (p.length : Int) = q := by rw [mid_one]; exact rdI_mid p q _
    refine Ev.step (fun k => by simp only [impl_ascending.l0, lt_mid, nn, if_true, rdI_mid, len_pred p q hp, lt_mid2, w_succ (t := t) hp, e2] <;> exact rfl) ?_
    refine Ev.bind (order_ev _ _ _ _) ?_
    simp only [ord_neg]
    by_cases c3 : tlt q t
    · simp only [c3, not_true_eq_false, if_false]
      rw [app_one (p ++ [q]) t suf]
      refine Ev.eq (ih (p ++ [q]) t (len_app hb)) ?_
      rw [decide_eq_decide]
      simp [asc, c3]
    · simp only [c3, not_false_eq_true, if_true]
      exact Ev.val (by simp [asc, c3])
theorem ascending_ev (E : List S51) (hb : (E.length : Int) < big) : Ev (fun k => impl_ascending.f k E) (decide (asc E)) := by
  unfold impl_ascending.f
  cases E with
  | nil =>
    refine Ev.step (fun k => by simp [impl_ascending.l0] <;> exact rfl) ?_
    exact Ev.val (congrArg some (decide_eq_true (by simp [asc])).symm)
  | cons t suf => exact ascending_l0 suf [] t hb
theorem implOk_l0 (n : Int) (E : List S51) (hE : (E.length : Int) < big) : ∀ (suf p : List S51), ((p ++ suf).length : Int) < big →
    Ev (fun k => impl_NetOk.l0 k (p ++ suf) ((p ++ suf).length : Int) (p.length : Int) n E) (decide ((∀ t ∈ suf, inr n t) ∧ asc E)) := by
  intro suf
  induction suf with
  | nil =>
    intro p hb
    refine Ev.step (fun k => by simp only [impl_NetOk.l0, nlt_end, if_false] <;> exact rfl) ?_
    refine Ev.bind (ascending_ev E hE) ?_
    exact Ev.val (by simp)
  | cons t suf ih =>
    intro p hb
    have hp : (p.length : Int) < big := len_mid hb
    refine Ev.step (fun k => by simp only [impl_NetOk.l0, lt_mid, nn, if_true, rdI_mid, w_succ (t := t) hp] <;> exact rfl) ?_
    by_cases c1 : t.f0 < 0
    · simp only [if_pos c1]
      exact Ev.val (by have : ¬ inr n t := by unfold inr; omega
                       simp [this])
    · simp only [if_neg c1]
      by_cases c2 : t.f0 ≥ t.f1
      · simp only [if_pos c2]
        exact Ev.val (by have : ¬ inr n t := by unfold inr; omega
                         simp [this])
      · simp only [if_neg c2]
        by_cases c3 : t.f1 ≥ n
        · simp only [if_pos c3]
          exact Ev.val (by have : ¬ inr n t := by unfold inr; omega
                           simp [this])
        · simp only [if_neg c3]
          rw [app_one p t suf]
          refine Ev.eq (ih (p ++ [t]) (len_app hb)) ?_
          have : inr n t := by unfold inr; omega
          rw [decide_eq_decide]
          simp [this]
theorem implOk (n : Int) (E : List S51) (hb : (E.length : Int) < big) : Ev (fun k => impl_NetOk.f k n E) (decide (ok n E)) := by
  unfold impl_NetOk.f
  by_cases c1 : n < 0
  · simp only [if_pos c1]
    refine Ev.step (fun k => by simp only [impl_NetOk.j0, if_true] <;> exact rfl) ?_
    exact Ev.val (by have : ¬ ok n E := fun h => by have := h.1; omega
                     simp [this])
  · simp only [if_neg c1]
    by_cases c2 : n > 8
    · refine Ev.step (fun k => by simp only [impl_NetOk.j0, c2, decide_true, if_true] <;> exact rfl) ?_
      exact Ev.val (by have : ¬ ok n E := fun h => by have := h.2.1; omega
                       simp [this])
    · refine Ev.step (fun k => by simp only [impl_NetOk.j0, c2, decide_false, Bool.false_eq_true, if_false] <;> exact rfl) ?_
      refine Ev.eq (implOk_l0 n E hb E [] hb) ?_
      rw [decide_eq_decide]
      unfold ok
      constructor
      · exact fun h => ⟨by omega, by omega, h.1, h.2⟩
      · exact fun h => ⟨h.2.2.1, h.2.2.2⟩
end Go.Proofs.YtjkeagcenmmknaaDoor.P
namespace Go.Proofs.YtjkeagcenmmknaaDoor.G
def tieOf (a b : Int) : Tie := if a < b then ⟨a, b⟩ else ⟨b, a⟩
theorem tieOf_comm (a b : Int) : tieOf a b = tieOf b a := by
 unfold tieOf
 rcases Int.lt_trichotomy a b with h | h | h
 ·rw [if_pos h, if_neg (by omega)]
 ·subst h; rfl
 ·rw [if_neg (by omega), if_pos h]
theorem tieOf_inr {n : Int} {t : Tie} (h : inr n t) : tieOf t.f0 t.f1 = t := by
 unfold tieOf; rw [if_pos h.2.1]
theorem tieOf_lt {a b : Int} (h : a < b) : tieOf a b = ⟨a, b⟩ := by unfold tieOf; rw [if_pos h]
end Go.Proofs.YtjkeagcenmmknaaDoor.G
namespace Go.Proofs.YtjkeagcenmmknaaDoor.P
open Go.RowKit Go.Proofs.YtjkeagcenmmknaaDoorW.PrintWords Go.Proofs.YtjkeagcenmmknaaDoor.G
theorem rdH_mid (pre : List S51) (t : S51) (suf : List S51) : rd_T51 (pre ++ t :: suf) (pre.length : Int) = t := by
 unfold rd_T51; exact getD_mid pre t suf _
theorem l1Tie_eq (a b : Int) : spec_l1Tie.f a b = some ((tieOf a b).f0, (tieOf a b).f1) := by
 unfold spec_l1Tie.f tieOf
 by_cases h : a < b <;> simp [h]
theorem tie_beq (s t : Tie) : (s.f0 == t.f0 && (s.f1 == t.f1)) = decide (s = t) := by
 obtain ⟨a, b⟩ := s
 obtain ⟨c, d⟩ := t
 simp only [Tie.mk.injEq]
 by_cases h : a = c <;> by_cases k : b = d <;> simp [h, k]
theorem l1Has_l0 (n a b : Int) : ∀ (suf p : List S51), ((p ++ suf).length : Int) < big →
  Ev (fun k => spec_l1Has.l0 k a b (p.length : Int) n (p ++ suf)) (decide (tieOf a b ∈ suf)) := by
 intro suf
 induction suf with
 | nil =>
  intro p hb
  refine Ev.step (fun k => by simp only [spec_l1Has.l0, nlt_end, if_false] <;> exact rfl) ?_
  exact Ev.val (congrArg some (decide_eq_false (by simp)).symm)
 | cons t suf ih =>
  intro p hb
  have hp : (p.length : Int) < big := len_mid hb
  refine Ev.step (fun k => by simp only [spec_l1Has.l0, lt_mid, nn, if_true, rdH_mid, w_succ (t := t) hp, l1Tie_eq, Option.bind_some, tie_beq, decide_eq_true_eq] <;> exact rfl) ?_
  by_cases c : t = tieOf a b
  ·simp only [if_pos c]
   exact Ev.val (congrArg some (decide_eq_true (by simp [c])).symm)
  ·simp only [if_neg c]
   rw [app_one p t suf]
   refine Ev.eq (ih (p ++ [t]) (len_app hb)) ?_
   rw [decide_eq_decide]
   have : ¬ tieOf a b = t := fun e => c e.symm
   simp [this]
theorem l1Has_ev (n a b : Int) (E : List S51) (hb : (E.length : Int) < big) : Ev (fun k => spec_l1Has.f k n E a b) (decide (tieOf a b ∈ E)) := by
 unfold spec_l1Has.f
 exact l1Has_l0 n a b E [] hb
end Go.Proofs.YtjkeagcenmmknaaDoor.P
namespace Go.Proofs.YtjkeagcenmmknaaDoor.G
def cut (X : List Tie) (t : Tie) : List Tie := X.filter fun s => !decide (s = t)
theorem mem_cut {X : List Tie} {s t : Tie} : s ∈ cut X t ↔ s ∈ X ∧ s ≠ t := by
 unfold cut
 rw [List.mem_filter]
 simp
def ties : List Int → List Tie
 | a :: b :: r => tieOf a b :: ties (b :: r)
 | _ => []
def cuts : List Tie → List Tie → Prop
 | _, [] => True
 | X, t :: r => t ∈ X ∧ cuts (cut X t) r
instance cuts_dec : (X T : List Tie) → Decidable (cuts X T)
 | _, [] => isTrue trivial
 | X, t :: r => by
  have := cuts_dec (cut X t) r
  unfold cuts
  infer_instance
def left (X : List Tie) : List Tie → List Tie
 | [] => X
 | t :: r => left (cut X t) r
theorem mem_left {T : List Tie} : ∀ {X : List Tie} {s : Tie}, s ∈ left X T ↔ s ∈ X ∧ s ∉ T := by
 induction T with
 | nil => intro X s; simp [left]
 | cons t r ih =>
  intro X s
  unfold left
  rw [ih, mem_cut]
  simp only [List.mem_cons, not_or]
  exact ⟨fun ⟨⟨a, b⟩, c⟩ => ⟨a, b, c⟩, fun ⟨a, b, c⟩ => ⟨⟨a, b⟩, c⟩⟩
def trailOk (n : Int) (E : List Tie) (row : List Int) : Prop := ok n E ∧ row.length = E.length + 1 ∧ (∀ v ∈ row, 0 ≤ v ∧ v < n) ∧ cuts E (ties row)
instance (n : Int) (E : List Tie) (row : List Int) : Decidable (trailOk n E row) := by unfold trailOk; infer_instance
theorem tieOf_ends {n a b : Int} (h : inr n (tieOf a b)) : (0 ≤ a ∧ a < n) ∧ (0 ≤ b ∧ b < n) ∧ a ≠ b := by
 unfold tieOf inr at h
 by_cases c : a < b
 ·rw [if_pos c] at h; simp only at h; omega
 ·rw [if_neg c] at h; simp only at h; omega
end Go.Proofs.YtjkeagcenmmknaaDoor.G
namespace Go.Proofs.YtjkeagcenmmknaaDoor.P
open Go.RowKit Go.Proofs.YtjkeagcenmmknaaDoorW.PrintWords Go.Proofs.YtjkeagcenmmknaaDoor.G
theorem l1Knot_ev (n a : Int) (E : List S51) (hE : (E.length : Int) < big) : Ev (fun k => spec_l1Knot.f k n E a) (decide (ok n E ∧ 0 ≤ a ∧ a < n)) := by
 unfold spec_l1Knot.f
 refine Ev.bind (specOk n E hE) ?_
 by_cases c : ok n E
 ·simp only [c, decide_true, if_true, in_eq, Option.bind_some]
  rw [w64 (by have := c.1; omega) (by have := c.2.1; omega)]
  refine Ev.val (congrArg some (decide_eq_decide.2 ?_))
  exact ⟨fun h => ⟨trivial, h.1, by omega⟩, fun h => ⟨h.2.1, by omega⟩⟩
 ·simp only [c, decide_false, Bool.false_eq_true, if_false]
  exact Ev.val (congrArg some (decide_eq_false (by simp)).symm)
theorem specHas_ev (n a b : Int) (E : List S51) (hE : (E.length : Int) < big) : Ev (fun k => spec_NetHas.f k n E a b) (decide (ok n E ∧ tieOf a b ∈ E)) := by
 unfold spec_NetHas.f
 refine Ev.bind (specOk n E hE) ?_
 by_cases c : ok n E
 ·simp only [c, decide_true, if_true]
  refine Ev.bind (l1Has_ev n a b E hE) ?_
  exact Ev.val (by simp)
 ·simp only [c, decide_false, Bool.false_eq_true, if_false]
  exact Ev.val (by simp)
theorem copy_eq (n : Int) (E : List S51) (hE : (E.length : Int) ≤ 1048576) : spec_l1Copy.f n E = some (n, E) := by
 unfold spec_l1Copy.f
 have : ([] : List S51).length + E.length < 8796093022208 := by simp; omega
 simp only [Option.bind_some, this, if_true, List.nil_append]
end Go.Proofs.YtjkeagcenmmknaaDoor.P
namespace Go.Proofs.YtjkeagcenmmknaaDoor.G
open Go.RowKit Go.Proofs.YtjkeagcenmmknaaDoorW.PrintWords
def octs (l : List Int) : Prop := ∀ x ∈ l, 0 ≤ x ∧ x ≤ 255
theorem rd_byte {l : List Int} (h : octs l) (i : Int) : 0 ≤ rd l i ∧ rd l i ≤ 255 := by
 unfold rd
 by_cases c : i.toNat < l.length
 ·rw [List.getD_eq_getElem?_getD, List.getElem?_eq_getElem c]
  exact h _ (List.getElem_mem c)
 ·rw [List.getD_eq_getElem?_getD, List.getElem?_eq_none (by omega)]
  simp
theorem xor_nn {a b : Int} (h0 : 0 ≤ a) (h1 : a < 9223372036854775808) (h2 : 0 ≤ b) (h3 : b < 9223372036854775808) : 0 ≤ Go.bits .xor .i64 a b := by
 obtain ⟨x, rfl⟩ := Int.eq_ofNat_of_zero_le h0
 obtain ⟨y, rfl⟩ := Int.eq_ofNat_of_zero_le h2
 have hx : x ^^^ y < 2 ^ 63 := Nat.xor_lt_two_pow (by omega) (by omega)
 have e1 : (BitVec.ofInt 64 (x : Int)).toNat = x := by
  rw [BitVec.ofInt_natCast, BitVec.toNat_ofNat]; exact Nat.mod_eq_of_lt (by omega)
 have e2 : (BitVec.ofInt 64 (y : Int)).toNat = y := by
  rw [BitVec.ofInt_natCast, BitVec.toNat_ofNat]; exact Nat.mod_eq_of_lt (by omega)
 show 0 ≤ IntKind.i64.wrap ((BitVec.ofInt 64 (x : Int) ^^^ BitVec.ofInt 64 (y : Int)).toNat : Int)
 rw [BitVec.toNat_xor, e1, e2]
 simp [IntKind.wrap, IntKind.bits, IntKind.signed]
 omega
theorem tmod_nn {a b : Int} (h : 0 ≤ a) (hb : 0 < b) : 0 ≤ Int.tmod a b ∧ Int.tmod a b < b := by
 rw [Int.tmod_eq_emod_of_nonneg h]
 exact ⟨Int.emod_nonneg _ (by omega), Int.emod_lt_of_pos _ hb⟩
theorem tdiv_nn {a b : Int} (h : 0 ≤ a) (hb : 0 ≤ b) : 0 ≤ Int.tdiv a b ∧ Int.tdiv a b ≤ a := by
 rw [Int.tdiv_eq_ediv_of_nonneg h]
 exact ⟨Int.ediv_nonneg h hb, Int.ediv_le_self _ h⟩
def Drawn (lo hi : Int) (M : Nat) (c p : Int) (r : Int × List Tie × Int) : Prop := lo ≤ r.1 ∧ r.1 ≤ hi ∧ r.2.1.length ≤ M ∧ p ≤ r.2.2 ∧ r.2.2 ≤ p + c
end Go.Proofs.YtjkeagcenmmknaaDoor.G
namespace Go.Proofs.YtjkeagcenmmknaaDoor.P
open Go.RowKit Go.Proofs.YtjkeagcenmmknaaDoorW.PrintWords Go.Proofs.YtjkeagcenmmknaaDoor.G
theorem open_eq (l : List Int) (h : octs l) : ∃ s, spec_l6Open.f l = some (s, 0) ∧ octs s ∧ s.length ≤ 2000 := by
 unfold spec_l6Open.f
 by_cases c : (l.length : Int) > 2000
 ·have c2 : (2000 : Int) ≤ (l.length : Int) := by omega
  exact ⟨l.take 2000, by simp only [if_pos c, if_pos c2], fun x hx => h x (List.mem_of_mem_take hx), List.length_take_le _ _⟩
 ·exact ⟨l, by simp only [if_neg c], h, by omega⟩
theorem pick_ev (s : List Int) (hs : octs s) (hl : s.length ≤ 2000) (p n : Int) (h0 : 0 ≤ p) (h1 : p ≤ 100000) :
  ∃ v, Ev (fun k => spec_l6Rd_pick.f k s p n) (v, p + 1) ∧ 0 ≤ v ∧ (v < n ∨ n < 1 ∧ v = 0) := by
 unfold spec_l6Rd_pick.f
 rw [w64 (x := p + 1) (by omega) (by omega)]
 by_cases c : n < 1
 ·refine ⟨0, ?_, Int.le_refl 0, .inr ⟨c, rfl⟩⟩
  simp only [if_pos c]
  exact Ev.step (fun k => by simp only [spec_l6Rd_pick.j0, if_true] <;> exact rfl) (Ev.val rfl)
 simp only [if_neg c]
 by_cases z : (s.length : Int) = 0
 ·refine ⟨0, ?_, Int.le_refl 0, .inl (by omega)⟩
  have z' : ((s.length : Int) == 0) = true := beq_iff_eq.2 z
  exact Ev.step (fun k => by simp only [spec_l6Rd_pick.j0, z', if_true] <;> exact rfl) (Ev.val rfl)
 have z' : ((s.length : Int) == 0) = false := beq_eq_false_iff_ne.2 z
 have zp : (0 : Int) < s.length := by omega
 have e1 : wrap64 (p + 1 - 1) = p := by rw [w64 (by omega) (by omega)]; omega
 have n0 : ¬ n = 0 := by omega
 by_cases d : p < (s.length : Int)
 ·have hb := rd_byte hs p
  have t := tmod_nn hb.1 (b := n) (by omega)
  refine ⟨Int.tmod (rd s p) n, ?_, t.1, .inl t.2⟩
  refine Ev.step (fun k => by simp only [spec_l6Rd_pick.j0, z', Bool.false_eq_true, if_false, e1, if_pos d, if_pos h0, if_neg n0, w64 (x := rd s p) (by omega) (by omega)] <;> exact rfl) (Ev.val rfl)
 ·have t1 := tmod_nn h0 zp
  have w1 : wrap64 (p * 7) = p * 7 := w64 (by omega) (by omega)
  have w2 : wrap64 (p * 7 + 3) = p * 7 + 3 := w64 (by omega) (by omega)
  have t2 := tmod_nn (a := p * 7 + 3) (by omega) zp
  have b1 := rd_byte hs (Int.tmod p (s.length : Int))
  have b2 := rd_byte hs (Int.tmod (p * 7 + 3) (s.length : Int))
  have q := tdiv_nn h0 (b := (s.length : Int)) (by omega)
  generalize hu : rd s (Int.tmod p (s.length : Int)) = u at b1
  generalize hv : rd s (Int.tmod (p * 7 + 3) (s.length : Int)) = v at b2
  generalize hy : Int.tdiv p (s.length : Int) = y at q
  have hx0 : 0 ≤ u * 131 + v * 1117 + p * 29 + y * 53 := by omega
  have hx1 : u * 131 + v * 1117 + p * 29 + y * 53 < 100000000 := by omega
  have q2 := tdiv_nn hx0 (b := 64) (by omega)
  have w3 : wrap64 (wrap64 (wrap64 (wrap64 (wrap64 u * 131) + wrap64 (wrap64 v * 1117)) + wrap64 (p * 29)) + wrap64 (wrap64 y * 53)) = u * 131 + v * 1117 + p * 29 + y * 53 := by
   rw [w64 (x := u) (by omega) (by omega), w64 (x := v) (by omega) (by omega), w64 (x := y) (by omega) (by omega), w64 (x := u * 131) (by omega) (by omega), w64 (x := v * 1117) (by omega) (by omega), w64 (x := y * 53) (by omega) (by omega), w64 (x := p * 29) (by omega) (by omega), w64 (x := u * 131 + v * 1117) (by omega) (by omega), w64 (x := u * 131 + v * 1117 + p * 29) (by omega) (by omega), w64 (by omega) (by omega)]
  have w4 : wrap64 (Int.tdiv (u * 131 + v * 1117 + p * 29 + y * 53) 64) = Int.tdiv (u * 131 + v * 1117 + p * 29 + y * 53) 64 := w64 (by omega) (by omega)
  generalize hX : u * 131 + v * 1117 + p * 29 + y * 53 = X at *
  have x0 := xor_nn hx0 (by omega) q2.1 (by omega)
  have t := tmod_nn x0 (b := n) (by omega)
  refine ⟨Int.tmod (Go.bits .xor .i64 X (Int.tdiv X 64)) n, ?_, t.1, .inl t.2⟩
  refine Ev.step (fun k => by simp only [spec_l6Rd_pick.j0, z', Bool.false_eq_true, if_false, e1, if_neg d, if_neg z, w1, w2, if_pos t1.1, if_pos t1.2, if_pos t2.1, if_pos t2.2, if_neg n0, hu, hv, hy, w3, w4] <;> exact rfl) (Ev.val rfl)
theorem add_l0 (n m a b : Int) : ∀ (suf p q : List S51) (f : Bool), ((p ++ suf).length : Int) ≤ 1048576 → q.length ≤ p.length + (if f then 1 else 0) →
  ∃ E, Ev (fun k => spec_NetAdd.l0 k f (p.length : Int) n (p ++ suf) m q a b) (m, E, true) ∧ E.length ≤ (p ++ suf).length + 1 := by
 intro suf
 induction suf with
 | nil =>
  intro p q f hb hq
  have hq8 : q.length < 8796093022208 := by rw [List.length_append] at hb; split at hq <;> omega
  cases f with
  | true => exact ⟨q, Ev.step (fun k => by simp only [spec_NetAdd.l0, nlt_end, if_false, if_true] <;> exact rfl) (Ev.val rfl), by simpa using hq⟩
  | false => exact ⟨q ++ [⟨a, b⟩], Ev.step (fun k => by simp only [spec_NetAdd.l0, nlt_end, if_false, Bool.false_eq_true, if_pos hq8] <;> exact rfl) (Ev.val rfl), by simp at hq ⊢; omega⟩
 | cons t suf ih =>
  intro p q f hb hq
  have hb' : ((p ++ t :: suf).length : Int) < big := by unfold big; omega
  have hp : (p.length : Int) < big := len_mid hb'
  have hq8 : q.length + 1 < 8796093022208 := by rw [List.length_append] at hb; split at hq <;> omega
  have hq7 : q.length < 8796093022208 := by omega
  have hb2 : (((p ++ [t]) ++ suf).length : Int) ≤ 1048576 := by rw [← app_one]; exact hb
  cases f with
  | true =>
   obtain ⟨E, e1, e2⟩ := ih (p ++ [t]) (q ++ [t]) true hb2 (by simp at hq ⊢; omega)
   rw [app_one p t suf]
   refine ⟨E, Ev.step (fun k => by simp only [← app_one, spec_NetAdd.l0, lt_mid, nn, if_true, rdH_mid, w_succ (t := t) hp, if_pos hq7] <;> exact rfl) ?_, e2⟩
   rw [app_one p t suf]
   exact e1
  | false =>
   have s0 : spec_NetAdd.l0 = spec_NetAdd.l0 := rfl
   by_cases c : tlt ⟨a, b⟩ ⟨t.f0, t.f1⟩
   ·obtain ⟨E, e1, e2⟩ := ih (p ++ [t]) (q ++ [⟨a, b⟩, t]) true hb2 (by simp at hq ⊢; omega)
    have hq9 : (q ++ [(⟨a, b⟩ : S51)]).length < 8796093022208 := by simp; omega
    rw [app_one p t suf]
    refine ⟨E, Ev.step (fun k => by simp only [← app_one, spec_NetAdd.l0, lt_mid, nn, if_true, Bool.false_eq_true, if_false, rdH_mid, w_succ (t := t) hp, less_eq, Option.bind_some, decide_eq_true c, if_pos hq7, if_pos hq9] <;> exact rfl) ?_, e2⟩
    rw [app_one p t suf]
    exact e1
   ·obtain ⟨E, e1, e2⟩ := ih (p ++ [t]) (q ++ [t]) false hb2 (by simp at hq ⊢; omega)
    rw [app_one p t suf]
    refine ⟨E, Ev.step (fun k => by simp only [← app_one, spec_NetAdd.l0, lt_mid, nn, if_true, Bool.false_eq_true, if_false, rdH_mid, w_succ (t := t) hp, less_eq, Option.bind_some, decide_eq_false c, if_pos hq7] <;> exact rfl) ?_, e2⟩
    rw [app_one p t suf]
    exact e1
theorem add_ev (n a b : Int) (E : List S51) (hE : (E.length : Int) ≤ 1048576) :
  ∃ m F t, Ev (fun k => spec_NetAdd.f k n E a b) (m, F, t) ∧ F.length ≤ E.length + 1 ∧ (m = n ∨ m = 0) := by
 have hb : (E.length : Int) < big := by unfold big; omega
 have no : Ev (fun k => spec_NetAdd.j0 k a b true n E) (0, [], false) := Ev.step (fun k => by simp only [spec_NetAdd.j0, if_true] <;> exact rfl) (Ev.val rfl)
 unfold spec_NetAdd.f
 by_cases c : ok n E ∧ 0 ≤ a ∧ a < n
 ·by_cases d : ok n E ∧ 0 ≤ b ∧ b < n
  ·have h1 : ∀ v : Bool, ∃ m F t, Ev (fun k => spec_NetAdd.j0 k a b v n E) (m, F, t) ∧ F.length ≤ E.length + 1 ∧ (m = n ∨ m = 0) := by
    intro v
    cases v with
    | true => exact ⟨0, [], false, no, by simp, .inr rfl⟩
    | false =>
     obtain ⟨F, e1, e2⟩ := add_l0 n n (tieOf a b).f0 (tieOf a b).f1 E [] [] false hE (by simp)
     refine ⟨n, F, true, ?_, e2, .inl rfl⟩
     exact Ev.step (fun k => by simp only [spec_NetAdd.j0, Bool.false_eq_true, if_false, l1Tie_eq, Option.bind_some] <;> exact rfl) e1
   by_cases e : a = b
   ·obtain ⟨m, F, t, e1, e2⟩ := h1 true
    refine ⟨m, F, t, Ev.bind (l1Knot_ev n a E hb) ?_, e2⟩
    simp only [c, and_self, decide_true, if_true]
    refine Ev.bind (l1Knot_ev n b E hb) ?_
    simp only [d, and_self, decide_true, if_true, if_pos e]
    exact e1
   ·obtain ⟨m, F, t, e1, e2⟩ := h1 (decide (ok n E ∧ tieOf a b ∈ E))
    refine ⟨m, F, t, Ev.bind (l1Knot_ev n a E hb) ?_, e2⟩
    simp only [c, and_self, decide_true, if_true]
    refine Ev.bind (l1Knot_ev n b E hb) ?_
    simp only [d, and_self, decide_true, if_true, if_neg e]
    exact Ev.bind (specHas_ev n a b E hb) e1
  ·refine ⟨0, [], false, Ev.bind (l1Knot_ev n a E hb) ?_, by simp, .inr rfl⟩
   simp only [c, and_self, decide_true, if_true]
   refine Ev.bind (l1Knot_ev n b E hb) ?_
   simp only [d, decide_false, Bool.false_eq_true, if_false]
   exact no
 ·refine ⟨0, [], false, Ev.bind (l1Knot_ev n a E hb) ?_, by simp, .inr rfl⟩
  simp only [c, decide_false, Bool.false_eq_true, if_false]
  exact no
end Go.Proofs.YtjkeagcenmmknaaDoor.P
namespace Go.Proofs.YtjkeagcenmmknaaDoor.P
open Go.RowKit Go.Proofs.YtjkeagcenmmknaaDoorW.PrintWords Go.Proofs.YtjkeagcenmmknaaDoor.G
theorem dnet_l2 (s : List Int) (hs : octs s) (hl : s.length ≤ 2000) : ∀ (d : Nat) (p n : Int) (E : List S51), d ≤ 20 → 0 ≤ p → p + 2 * d ≤ 80000 → 0 ≤ n → n ≤ 8 → E.length + d ≤ 1000 →
  ∃ r, Ev (fun k => spec_l71Net.l2 k (d : Int) s p n E) r ∧ Drawn 0 8 (E.length + d) (2 * d) p r := by
 intro d
 induction d with
 | zero =>
  intro p n E hd h0 h1 n0 n1 hE
  refine ⟨(n, E, p), ?_, by simp [Drawn]; omega⟩
  have c : ¬ (0 : Int) > 0 := by omega
  refine Ev.step (fun k => by simp only [spec_l71Net.l2, Int.natCast_zero, if_neg c] <;> exact rfl) ?_
  exact Ev.step (fun k => by simp only [spec_l71Net.j4, Bool.false_eq_true, if_false] <;> exact rfl) (Ev.val rfl)
 | succ d ih =>
  intro p n E hd h0 h1 n0 n1 hE
  have c : ((d + 1 : Nat) : Int) > 0 := by omega
  have w : wrap64 (((d + 1 : Nat) : Int) - 1) = (d : Int) := by rw [w64 (by omega) (by omega)]; omega
  by_cases m : n > 1
  ·obtain ⟨v, v1, _⟩ := pick_ev s hs hl p n h0 (by omega)
   obtain ⟨u, u1, _⟩ := pick_ev s hs hl (p + 1) n (by omega) (by omega)
   obtain ⟨m', F, t, a1, a2, a3⟩ := add_ev n v u E (by omega)
   have step : ∀ r, Ev (fun k => if t = true then spec_l71Net.l2 k (d : Int) s (p + 1 + 1) m' F else spec_l71Net.l2 k (d : Int) s (p + 1 + 1) n E) r → Ev (fun k => spec_l71Net.l2 k ((d + 1 : Nat) : Int) s p n E) r := by
    intro r hr
    refine Ev.step (fun k => by simp only [spec_l71Net.l2, if_pos c, decide_eq_true m] <;> exact rfl) ?_
    refine Ev.step (fun k => by simp only [spec_l71Net.j4, if_true, w] <;> exact rfl) ?_
    exact Ev.bind v1 (Ev.bind u1 (Ev.bind a1 hr))
   cases t with
   | true =>
    obtain ⟨r, r1, r2⟩ := ih (p + 1 + 1) m' F (by omega) (by omega) (by omega) (by omega) (by omega) (by omega)
    exact ⟨r, step r (by simp only [if_true]; exact r1), by unfold Drawn at *; omega⟩
   | false =>
    obtain ⟨r, r1, r2⟩ := ih (p + 1 + 1) n E (by omega) (by omega) (by omega) (by omega) (by omega) (by omega)
    exact ⟨r, step r (by simp only [Bool.false_eq_true, if_false]; exact r1), by unfold Drawn at *; omega⟩
  ·refine ⟨(n, E, p), ?_, by simp [Drawn]; omega⟩
   refine Ev.step (fun k => by simp only [spec_l71Net.l2, if_pos c, decide_eq_false m] <;> exact rfl) ?_
   exact Ev.step (fun k => by simp only [spec_l71Net.j4, Bool.false_eq_true, if_false] <;> exact rfl) (Ev.val rfl)
theorem dnet_j2 (s : List Int) (hs : octs s) (hl : s.length ≤ 2000) (p n : Int) (E : List S51) (h0 : 0 ≤ p) (h1 : p ≤ 75000) (n0 : 0 ≤ n) (n1 : n ≤ 8) (hE : E.length ≤ 20) :
  ∃ r, Ev (fun k => spec_l71Net.j2 k s p n E) r ∧ Drawn 0 8 40 30 p r := by
 obtain ⟨v, v1, v2, v3⟩ := pick_ev s hs hl p 13 h0 (by omega)
 obtain ⟨r, r1, r2⟩ := dnet_l2 s hs hl v.toNat (p + 1) n E (by omega) (by omega) (by omega) n0 n1 (by omega)
 rw [Int.toNat_of_nonneg v2] at r1
 refine ⟨r, Ev.step (fun k => by simp only [spec_l71Net.j2] <;> exact rfl) (Ev.bind v1 r1), by unfold Drawn at *; omega⟩
theorem dnet_l0 (s : List Int) (hs : octs s) (hl : s.length ≤ 2000) : ∀ (d : Nat) (i p n : Int) (E : List S51), i + d = 9 → 0 ≤ i → 0 ≤ p → p + d ≤ 70000 → 0 ≤ n → n ≤ 8 → (E.length : Int) ≤ i →
  ∃ r, Ev (fun k => spec_l71Net.l0 k i s p n E) r ∧ Drawn 0 8 40 (30 + d) p r := by
 intro d
 induction d with
 | zero =>
  intro i p n E hi i0 h0 h1 n0 n1 hE
  obtain ⟨r, r1, r2⟩ := dnet_j2 s hs hl p n E h0 (by omega) n0 n1 (by omega)
  have c : ¬ i < n := by omega
  exact ⟨r, Ev.step (fun k => by simp only [spec_l71Net.l0, if_neg c] <;> exact rfl) r1, by unfold Drawn at *; omega⟩
 | succ d ih =>
  intro i p n E hi i0 h0 h1 n0 n1 hE
  by_cases c : i < n
  ·obtain ⟨v, v1, _⟩ := pick_ev s hs hl p i h0 (by omega)
   obtain ⟨m', F, t, a1, a2, a3⟩ := add_ev n i v E (by omega)
   obtain ⟨r, r1, r2⟩ := ih (i + 1) (p + 1) m' F (by omega) (by omega) (by omega) (by omega) (by omega) (by omega) (by omega)
   refine ⟨r, Ev.step (fun k => by simp only [spec_l71Net.l0, if_pos c, w64 (x := i + 1) (by omega) (by omega)] <;> exact rfl) (Ev.bind v1 (Ev.bind a1 r1)), by unfold Drawn at *; omega⟩
  ·obtain ⟨r, r1, r2⟩ := dnet_j2 s hs hl p n E h0 (by omega) n0 n1 (by omega)
   exact ⟨r, Ev.step (fun k => by simp only [spec_l71Net.l0, if_neg c] <;> exact rfl) r1, by unfold Drawn at *; omega⟩
theorem dnet_l1 (s : List Int) (hs : octs s) (hl : s.length ≤ 2000) : ∀ (d : Nat) (i p n : Int) (E : List S51), i + d = 9 → 0 ≤ i → 0 ≤ p → p ≤ 70000 → 0 ≤ n → n ≤ 8 → (E.length : Int) ≤ i →
  ∃ r, Ev (fun k => spec_l71Net.l1 k i s p n E) r ∧ Drawn 0 8 40 (30 + d) p r := by
 intro d
 induction d with
 | zero =>
  intro i p n E hi i0 h0 h1 n0 n1 hE
  obtain ⟨r, r1, r2⟩ := dnet_j2 s hs hl p n E h0 (by omega) n0 n1 (by omega)
  have c : ¬ i < n := by omega
  exact ⟨r, Ev.step (fun k => by simp only [spec_l71Net.l1, if_neg c] <;> exact rfl) r1, by unfold Drawn at *; omega⟩
 | succ d ih =>
  intro i p n E hi i0 h0 h1 n0 n1 hE
  by_cases c : i < n
  ·by_cases c2 : n > 2
   ·have c3 : ¬ n = 0 := by omega
    obtain ⟨m', F, t, a1, a2, a3⟩ := add_ev n i (Int.tmod (i + 1) n) E (by omega)
    obtain ⟨r, r1, r2⟩ := ih (i + 1) p m' F (by omega) (by omega) (by omega) (by omega) (by omega) (by omega) (by omega)
    refine ⟨r, Ev.step (fun k => by simp only [spec_l71Net.l1, if_pos c, if_pos c2, if_neg c3, w64 (x := i + 1) (by omega) (by omega)] <;> exact rfl) (Ev.bind a1 r1), by unfold Drawn at *; omega⟩
   ·obtain ⟨r, r1, r2⟩ := dnet_j2 s hs hl p n E h0 (by omega) n0 n1 (by omega)
    exact ⟨r, Ev.step (fun k => by simp only [spec_l71Net.l1, if_pos c, if_neg c2] <;> exact rfl) r1, by unfold Drawn at *; omega⟩
  ·obtain ⟨r, r1, r2⟩ := dnet_j2 s hs hl p n E h0 (by omega) n0 n1 (by omega)
   exact ⟨r, Ev.step (fun k => by simp only [spec_l71Net.l1, if_neg c] <;> exact rfl) r1, by unfold Drawn at *; omega⟩
theorem dnet_ev (s : List Int) (hs : octs s) (hl : s.length ≤ 2000) (p : Int) (h0 : 0 ≤ p) (h1 : p ≤ 60000) :
  ∃ r, Ev (fun k => spec_l71Net.f k s p) r ∧ Drawn 0 8 40 50 p r := by
 obtain ⟨v, v1, v2, v3⟩ := pick_ev s hs hl p 8 h0 (by omega)
 obtain ⟨u, u1, u2, u3⟩ := pick_ev s hs hl (p + 1) 6 (by omega) (by omega)
 have w : wrap64 (1 + v) = 1 + v := w64 (by omega) (by omega)
 unfold spec_l71Net.f
 by_cases c : u = 0
 ·obtain ⟨r, r1, r2⟩ := dnet_l0 s hs hl 8 1 (p + 1 + 1) (1 + v) [] (by omega) (by omega) (by omega) (by omega) (by omega) (by omega) (by simp)
  refine ⟨r, Ev.bind v1 (Ev.bind u1 ?_), by unfold Drawn at *; omega⟩
  simp only [w, if_pos c]
  exact r1
 ·by_cases d : u = 1
  ·obtain ⟨r, r1, r2⟩ := dnet_l1 s hs hl 9 0 (p + 1 + 1) (1 + v) [] (by omega) (by omega) (by omega) (by omega) (by omega) (by omega) (by simp)
   refine ⟨r, Ev.bind v1 (Ev.bind u1 ?_), by unfold Drawn at *; omega⟩
   simp only [w, if_neg c, if_pos d]
   exact r1
  ·obtain ⟨r, r1, r2⟩ := dnet_j2 s hs hl (p + 1 + 1) (1 + v) [] (by omega) (by omega) (by omega) (by omega) (by simp)
   refine ⟨r, Ev.bind v1 (Ev.bind u1 ?_), by unfold Drawn at *; omega⟩
   simp only [w, if_neg c, if_neg d]
   exact r1
theorem spoil_ev (s : List Int) (hs : octs s) (hl : s.length ≤ 2000) (p n : Int) (E : List S51) (h0 : 0 ≤ p) (h1 : p ≤ 70000) (n0 : 0 ≤ n) (n1 : n ≤ 8) (hE : E.length ≤ 40) :
  ∃ r, Ev (fun k => spec_l71Spoil.f k s p n E) r ∧ Drawn (-1) 9 50 5 p r := by
 obtain ⟨v, v1, v2, v3⟩ := pick_ev s hs hl p 6 h0 (by omega)
 have q8 : E.length < 8796093022208 := by omega
 have q9 : ([(⟨-1, 0⟩ : S51)] : List S51).length + E.length < 8796093022208 := by simp; omega
 unfold spec_l71Spoil.f
 simp only [copy_eq n E (by omega), Option.bind_some, if_pos q8, if_pos q9]
 by_cases c0 : v = 0
 ·obtain ⟨u, u1, u2, u3⟩ := pick_ev s hs hl (p + 1) 5 (by omega) (by omega)
  have g : u < ((([(-1), 0, 1, 8, 9] : List Int)).length : Int) := by show u < 5; omega
  have b : -1 ≤ rd [(-1), 0, 1, 8, 9] u ∧ rd [(-1), 0, 1, 8, 9] u ≤ 9 := by
   have : u = 0 ∨ u = 1 ∨ u = 2 ∨ u = 3 ∨ u = 4 := by omega
   rcases this with rfl | rfl | rfl | rfl | rfl <;> decide
  refine ⟨(rd [(-1), 0, 1, 8, 9] u, E, p + 1 + 1), Ev.bind v1 ?_, by simp [Drawn]; omega⟩
  simp only [if_pos c0]
  refine Ev.bind u1 ?_
  simp only [if_pos u2, if_pos g]
  exact Ev.val rfl
 by_cases c1 : v = 1
 ·obtain ⟨u, u1, u2, u3⟩ := pick_ev s hs hl (p + 1) 3 (by omega) (by omega)
  obtain ⟨t, t1, t2, t3⟩ := pick_ev s hs hl (p + 1 + 1) 3 (by omega) (by omega)
  refine ⟨(n, E ++ [⟨u, t⟩], p + 1 + 1 + 1), Ev.bind v1 ?_, by simp [Drawn]; omega⟩
  simp only [if_neg c0, if_pos c1]
  exact Ev.bind u1 (Ev.bind t1 (Ev.val rfl))
 by_cases c2 : v = 2
 ·refine ⟨(n, E ++ [⟨wrap64 (n - 1), n⟩], p + 1), Ev.bind v1 ?_, by simp [Drawn]; omega⟩
  simp only [if_neg c0, if_neg c1, if_pos c2]
  exact Ev.val rfl
 by_cases c3 : v = 3
 ·by_cases d : (E.length : Int) > 0
  ·obtain ⟨u, u1, u2, u3⟩ := pick_ev s hs hl (p + 1) (E.length : Int) (by omega) (by omega)
   have g : u < (E.length : Int) := by omega
   refine ⟨(n, E.set u.toNat ⟨(rd_T51 E u).f1, (rd_T51 E u).f0⟩, p + 1 + 1), Ev.bind v1 ?_, by simp [Drawn]; omega⟩
   simp only [if_neg c0, if_neg c1, if_neg c2, if_pos c3, if_pos d]
   refine Ev.bind u1 ?_
   simp only [if_pos u2, if_pos g]
   exact Ev.val rfl
  ·refine ⟨(n, E, p + 1), Ev.bind v1 ?_, by simp [Drawn]; omega⟩
   simp only [if_neg c0, if_neg c1, if_neg c2, if_pos c3, if_neg d]
   exact Ev.val rfl
 by_cases c4 : v = 4
 ·by_cases d : (E.length : Int) > 1
  ·have d0 : 0 < (E.length : Int) := by omega
   refine ⟨(n, E ++ [⟨(rd_T51 E 0).f0, (rd_T51 E 0).f1⟩], p + 1), Ev.bind v1 ?_, by simp [Drawn]; omega⟩
   simp only [if_neg c0, if_neg c1, if_neg c2, if_neg c3, if_pos c4, if_pos d, if_pos d0]
   exact Ev.val rfl
  ·refine ⟨(n, E, p + 1), Ev.bind v1 ?_, by simp [Drawn]; omega⟩
   simp only [if_neg c0, if_neg c1, if_neg c2, if_neg c3, if_pos c4, if_neg d]
   exact Ev.val rfl
 ·refine ⟨(n, [⟨-1, 0⟩] ++ E, p + 1), Ev.bind v1 ?_, by simp [Drawn]; omega⟩
  simp only [if_neg c0, if_neg c1, if_neg c2, if_neg c3, if_neg c4]
  exact Ev.val rfl
theorem any_ev (s : List Int) (hs : octs s) (hl : s.length ≤ 2000) (p : Int) (h0 : 0 ≤ p) (h1 : p ≤ 60000) :
  ∃ r, Ev (fun k => spec_l71Any.f k s p) r ∧ Drawn (-1) 9 50 60 p r := by
 obtain ⟨⟨n, E, q⟩, r1, r2⟩ := dnet_ev s hs hl p h0 h1
 simp only [Drawn] at r2
 obtain ⟨v, v1, v2, v3⟩ := pick_ev s hs hl q 12 (by omega) (by omega)
 unfold spec_l71Any.f
 by_cases c : v = 0
 ·obtain ⟨r, s1, s2⟩ := spoil_ev s hs hl (q + 1) n E (by omega) (by omega) (by omega) (by omega) (by omega)
  refine ⟨r, Ev.bind r1 (Ev.bind v1 ?_), by unfold Drawn at *; omega⟩
  simp only [if_pos c]
  exact Ev.bind s1 (Ev.val rfl)
 ·refine ⟨(n, E, q + 1), Ev.bind r1 (Ev.bind v1 ?_), by simp [Drawn]; omega⟩
  simp only [if_neg c]
  exact Ev.val rfl
end Go.Proofs.YtjkeagcenmmknaaDoor.P
namespace Go.Proofs.YtjkeagcenmmknaaDoor.G
open Go.RowKit Go.Proofs.YtjkeagcenmmknaaDoorW.PrintWords
inductive Conn (E : List Tie) : Int → Int → Prop
 | refl (a : Int) : Conn E a a
 | step {a b c : Int} : Conn E a b → tieOf b c ∈ E → Conn E a c
theorem Conn.one {E : List Tie} {a b : Int} (h : tieOf a b ∈ E) : Conn E a b := .step (.refl a) h
theorem Conn.trans {E : List Tie} {a b c : Int} (h : Conn E a b) (k : Conn E b c) : Conn E a c := by
 induction k with
 | refl => exact h
 | step _ t ih => exact .step ih t
theorem Conn.symm {E : List Tie} {a b : Int} (h : Conn E a b) : Conn E b a := by
 induction h with
 | refl => exact .refl _
 | step _ t ih => exact (Conn.one (tieOf_comm _ _ ▸ t)).trans ih
theorem Conn.mono {E F : List Tie} {a b : Int} (h : Conn E a b) (hs : ∀ t ∈ E, t ∈ F) : Conn F a b := by
 induction h with
 | refl => exact .refl _
 | step _ t ih => exact .step ih (hs _ t)
theorem Conn.closed {E : List Tie} {a b : Int} (h : Conn E a b) (p : Int → Prop) (ha : p a) (hc : ∀ x y, p x → tieOf x y ∈ E → p y) : p b := by
 induction h with
 | refl => exact ha
 | step _ t ih => exact hc _ _ ih t
theorem Conn.range {n : Int} {E : List Tie} (hE : ∀ t ∈ E, inr n t) {a b : Int} (h : Conn E a b) (ha : 0 ≤ a ∧ a < n) : 0 ≤ b ∧ b < n :=
 h.closed (fun x => 0 ≤ x ∧ x < n) ha (fun _ _ _ ht => (tieOf_ends (hE _ ht)).2.1)
theorem Conn.tie {E : List Tie} {t : Tie} (ht : t ∈ E) (h : t.f0 < t.f1) : Conn E t.f0 t.f1 := Conn.one (by rw [tieOf_lt h]; exact ht)
def EvP (g : Nat → Option Bool) (P : Prop) : Prop := ∃ b : Bool, Ev g b ∧ (b = true ↔ P)
theorem EvP.of {g : Nat → Option Bool} {P : Prop} [Decidable P] (h : Ev g (decide P)) : EvP g P := ⟨_, h, by simp⟩
theorem EvP.iff {g : Nat → Option Bool} {P Q : Prop} (h : EvP g P) (e : P ↔ Q) : EvP g Q := by
 obtain ⟨b, h1, h2⟩ := h
 exact ⟨b, h1, h2.trans e⟩
theorem EvP.step {g f : Nat → Option Bool} {P : Prop} (h : ∀ k, g (k + 1) = f k) (k : EvP f P) : EvP g P := by
 obtain ⟨b, h1, h2⟩ := k
 exact ⟨b, Ev.step h h1, h2⟩
theorem EvP.bind {α : Type} {g : Nat → Option α} {f : Nat → α → Option Bool} {a : α} {P : Prop} (h : Ev g a) (k : EvP (fun n => f n a) P) : EvP (fun n => (g n).bind (f n)) P := by
 obtain ⟨b, h1, h2⟩ := k
 exact ⟨b, Ev.bind h h1, h2⟩
theorem EvP.same {g f : Nat → Option Bool} {P : Prop} (h : EvP g P) (k : EvP f P) : ∃ b, Ev g b ∧ Ev f b := by
 obtain ⟨b, h1, h2⟩ := h
 obtain ⟨c, k1, k2⟩ := k
 have : b = c := by
  rw [Bool.eq_iff_iff]; exact h2.trans k2.symm
 exact ⟨b, h1, this ▸ k1⟩
theorem nodup_len_le {α : Type} [DecidableEq α] : ∀ {l m : List α}, l.Nodup → (∀ x ∈ l, x ∈ m) → l.length ≤ m.length
 | [], m, _, _ => Nat.zero_le _
 | a :: l, m, h, hs => by
  obtain ⟨h1, h2⟩ := List.nodup_cons.1 h
  have ha : a ∈ m := hs a (List.mem_cons_self)
  have : l.length ≤ (m.erase a).length := nodup_len_le h2 (fun x hx => (List.mem_erase_of_ne (fun (e : x = a) => h1 (by rw [← e]; exact hx))).2 (hs x (List.mem_cons_of_mem _ hx)))
  rw [List.length_erase_of_mem ha] at this
  have : 0 < m.length := List.length_pos_of_mem ha
  simp only [List.length_cons]
  omega
theorem nodup_len_eq {α : Type} [DecidableEq α] {l m : List α} (hl : l.Nodup) (hm : m.Nodup) (h : ∀ x, x ∈ l ↔ x ∈ m) : l.length = m.length :=
 Nat.le_antisymm (nodup_len_le hl (fun x hx => (h x).1 hx)) (nodup_len_le hm (fun x hx => (h x).2 hx))
theorem nodup_map {α β : Type} (f : α → β) : ∀ {l : List α}, l.Nodup → (∀ x ∈ l, ∀ y ∈ l, f x = f y → x = y) → (l.map f).Nodup
 | [], _, _ => by simp
 | a :: l, h, hf => by
  obtain ⟨h1, h2⟩ := List.nodup_cons.1 h
  rw [List.map_cons, List.nodup_cons]
  refine ⟨fun hm => ?_, nodup_map f h2 (fun x hx y hy => hf x (List.mem_cons_of_mem _ hx) y (List.mem_cons_of_mem _ hy))⟩
  obtain ⟨y, hy, e⟩ := List.mem_map.1 hm
  have := hf a (List.mem_cons_self) y (List.mem_cons_of_mem _ hy) e.symm
  exact h1 (this ▸ hy)
def knots (n : Int) : List Int := (List.range n.toNat).map fun (i : Nat) => (i : Int)
theorem mem_knots {n v : Int} : v ∈ knots n ↔ 0 ≤ v ∧ v < n := by
 unfold knots
 rw [List.mem_map]
 constructor
 ·rintro ⟨i, hi, rfl⟩
  have := List.mem_range.1 hi
  omega
 ·rintro ⟨h0, h1⟩
  exact ⟨v.toNat, List.mem_range.2 (by omega), by omega⟩
theorem knots_nodup (n : Int) : (knots n).Nodup := nodup_map _ List.nodup_range (fun x _ y _ e => Int.ofNat.inj e)
theorem knots_len (n : Int) : (knots n).length = n.toNat := by simp [knots]
theorem knots_succ {n : Int} (h : 0 ≤ n) : knots (n + 1) = knots n ++ [n] := by
 unfold knots
 have : (n + 1).toNat = n.toNat + 1 := by omega
 rw [this, List.range_succ, List.map_append]
 simp
 omega
def next (n : Int) (E : List Tie) (v : Int) : List Int := (knots n).filter fun i => decide (tieOf v i ∈ E)
theorem mem_next {n v i : Int} {E : List Tie} (hE : ∀ t ∈ E, inr n t) : i ∈ next n E v ↔ tieOf v i ∈ E := by
 unfold next
 rw [List.mem_filter, mem_knots]
 simp only [decide_eq_true_eq]
 exact ⟨fun h => h.2, fun h => ⟨(tieOf_ends (hE _ h)).2.1, h⟩⟩
end Go.Proofs.YtjkeagcenmmknaaDoor.G
namespace Go.Proofs.YtjkeagcenmmknaaDoor.P
open Go.RowKit Go.Proofs.YtjkeagcenmmknaaDoorW.PrintWords Go.Proofs.YtjkeagcenmmknaaDoor.G
theorem next_l0 (n v : Int) (E : List S51) (hE : (E.length : Int) < big) (h8 : n ≤ 8) : ∀ (d : Nat) (i : Int), 0 ≤ i → i + d = n →
  Ev (fun k => spec_l2Next.l0 k v ((knots i).filter fun j => decide (tieOf v j ∈ E)) i n E) (next n E v) := by
 intro d
 induction d with
 | zero =>
  intro i h0 hi
  have hi' : i = n := by omega
  subst hi'
  have c : ¬ i < i := by omega
  refine Ev.step (fun k => by simp only [spec_l2Next.l0, c, if_false] <;> exact rfl) ?_
  exact Ev.val rfl
 | succ d ih =>
  intro i h0 hi
  have c : i < n := by omega
  have w : wrap64 (i + 1) = i + 1 := w64 (by omega) (by omega)
  have hl : ((knots i).filter fun j => decide (tieOf v j ∈ E)).length < 17592186044416 := by
   have := List.length_filter_le (fun j => decide (tieOf v j ∈ E)) (knots i)
   rw [knots_len] at this
   omega
  refine Ev.step (fun k => by simp only [spec_l2Next.l0, c, if_true, w, hl] <;> exact rfl) ?_
  refine Ev.bind (l1Has_ev n v i E hE) ?_
  have e := ih (i + 1) (by omega) (by omega)
  rw [knots_succ h0, List.filter_append] at e
  by_cases d : tieOf v i ∈ E
  ·simp only [d, decide_true, if_true]
   simpa [d] using e
  ·simp only [d, decide_false, Bool.false_eq_true, if_false]
   simpa [d] using e
theorem next_ev (n v : Int) (E : List S51) (hE : ok n E) : Ev (fun k => spec_l2Next.f k n E v) (next n E v) := by
 unfold spec_l2Next.f
 have hb : (E.length : Int) < big := by have := ok_len hE; unfold big; omega
 exact next_l0 n v E hb hE.2.1 n.toNat 0 (by omega) (by have := hE.1; omega)
def cnt (f : List Bool) : Nat := (f.filter fun b => !b).length
theorem rdOf_set {f : List Bool} {u v : Int} (hu : 0 ≤ u) (hu2 : u < (f.length : Int)) (hv : 0 ≤ v) : rdOf false (f.set u.toNat true) v = if u = v then true else rdOf false f v := by
 unfold rdOf
 rw [List.getD_eq_getElem?_getD, List.getD_eq_getElem?_getD, List.getElem?_set]
 by_cases c : u = v
 ·subst c
  rw [if_pos rfl, if_pos (by omega), if_pos rfl]; rfl
 ·rw [if_neg (by omega), if_neg c]
theorem cnt_set : ∀ {f : List Bool} {i : Nat}, f.getD i false = false → i < f.length → cnt (f.set i true) + 1 = cnt f
 | [], i, _, h => absurd h (Nat.not_lt_zero _)
 | b :: f, 0, h, _ => by
  have : b = false := h
  subst this
  simp [cnt]
 | b :: f, i + 1, h, hl => by
  have hl' : i < f.length := by simpa using hl
  have ih := cnt_set (f := f) (i := i) (by simpa using h) hl'
  unfold cnt at *
  rw [List.set_cons_succ]
  cases b <;> simp at ih ⊢ <;> omega
structure Inv (n : Int) (E : List Tie) (a : Int) (f : List Bool) (q : List Int) (at_ : Int → Prop) : Prop where
 len : (f.length : Int) = n
 start : rdOf false f a = true
 conn : ∀ v, 0 ≤ v → v < n → rdOf false f v = true → Conn E a v
 queue : ∀ x ∈ q, 0 ≤ x ∧ x < n ∧ rdOf false f x = true
 done : ∀ v, 0 ≤ v → v < n → rdOf false f v = true → v ∈ q ∨ at_ v ∨ ∀ w, tieOf v w ∈ E → rdOf false f w = true
theorem reach_l1 (n : Int) (E : List S51) (a : Int) (c : Int) (hE : ∀ t ∈ E, inr n t) (hc : 0 ≤ c ∧ c < n) (hca : Conn E a c) : ∀ (suf p : List Int) (f : List Bool) (q : List Int),
  ((p ++ suf).length : Int) < big → (∀ x ∈ suf, tieOf c x ∈ E) → q.length + cnt f ≤ 1000 → Inv n E a f q (fun v => v = c) →
  ∃ f' q', Inv n E a f' q' (fun v => v = c) ∧ (∀ x ∈ suf, rdOf false f' x = true) ∧ (∀ x, 0 ≤ x → rdOf false f x = true → rdOf false f' x = true) ∧ q'.length + cnt f' = q.length + cnt f ∧ cnt f' ≤ cnt f ∧
   ∀ r, Ev (fun k => spec_WayReach.l0 k f' q' n E) r → Ev (fun k => spec_WayReach.l1 k f q (p ++ suf) (p.length : Int) n E) r := by
 intro suf
 induction suf with
 | nil =>
  intro p f q hb hs hm hI
  refine ⟨f, q, hI, by simp, fun x _ h => h, rfl, Nat.le_refl _, fun r hr => ?_⟩
  refine Ev.step (fun k => by simp only [spec_WayReach.l1, nlt_end, if_false] <;> exact rfl) hr
 | cons t suf ih =>
  intro p f q hb hs hm hI
  have hp : (p.length : Int) < big := len_mid hb
  have ht : tieOf c t ∈ E := hs t (List.mem_cons_self)
  have htr := (tieOf_ends (hE _ ht)).2.1
  have b1 : 0 ≤ t := htr.1
  have b2 : t < (f.length : Int) := by rw [hI.len]; exact htr.2
  by_cases d : rdOf false f t = true
  ·obtain ⟨f', q', h1, h2, h3, h4, h5, h6⟩ := ih (p ++ [t]) f q (len_app hb) (fun x hx => hs x (List.mem_cons_of_mem _ hx)) hm hI
   refine ⟨f', q', h1, fun x hx => ?_, h3, h4, h5, fun r hr => ?_⟩
   ·rcases List.mem_cons.1 hx with rfl | hx
    ·exact h3 _ b1 d
    ·exact h2 x hx
   ·refine Ev.step (fun k => by simp only [spec_WayReach.l1, lt_mid, nn, if_true, rd_mid, w_succ (t := t) hp, b1, b2, d] <;> exact rfl) ?_
    rw [app_one p t suf]
    exact h6 r hr
  ·have d' : rdOf false f t = false := by simpa using d
   have hcnt := cnt_set (f := f) (i := t.toNat) d' (by omega)
   have hq : q.length < 17592186044416 := by omega
   have hset : ∀ v, 0 ≤ v → rdOf false (f.set t.toNat true) v = if t = v then true else rdOf false f v := fun v hv => rdOf_set b1 b2 hv
   have hI' : Inv n E a (f.set t.toNat true) (q ++ [t]) (fun v => v = c) := by
    refine ⟨by rw [List.length_set]; exact hI.len, ?_, ?_, ?_, ?_⟩
    ·by_cases ha : 0 ≤ a
     ·rw [hset a ha, hI.start]; simp
     ·have h0 := hI.start
      unfold rdOf at h0 ⊢
      rw [List.getD_eq_getElem?_getD] at h0 ⊢
      rw [List.getElem?_set]
      split
      ·split <;> simp_all
      ·exact h0
    ·intro v h0 h1 hv
     rw [hset v h0] at hv
     by_cases e : t = v
     ·subst e; exact hca.step ht
     ·rw [if_neg e] at hv; exact hI.conn v h0 h1 hv
    ·intro x hx
     rcases List.mem_append.1 hx with hx | hx
     ·obtain ⟨x0, x1, x2⟩ := hI.queue x hx
      exact ⟨x0, x1, by rw [hset x x0, x2]; simp⟩
     ·rw [List.mem_singleton] at hx
      subst hx
      exact ⟨b1, htr.2, by rw [hset _ b1]; simp⟩
    ·intro v h0 h1 hv
     rw [hset v h0] at hv
     by_cases e : t = v
     ·subst e; exact .inl (by simp)
     ·rw [if_neg e] at hv
      rcases hI.done v h0 h1 hv with h | h | h
      ·exact .inl (by simp [h])
      ·exact .inr (.inl h)
      ·refine .inr (.inr (fun w hw => ?_))
       rw [hset w (tieOf_ends (hE _ hw)).2.1.1, h w hw]; simp
   obtain ⟨f', q', h1, h2, h3, h4, h5, h6⟩ := ih (p ++ [t]) (f.set t.toNat true) (q ++ [t]) (len_app hb) (fun x hx => hs x (List.mem_cons_of_mem _ hx)) (by simp; omega) hI'
   refine ⟨f', q', h1, fun x hx => ?_, fun x h0 hx => h3 x h0 (by rw [hset x h0, hx]; simp), by rw [h4]; simp; omega, by omega, fun r hr => ?_⟩
   ·rcases List.mem_cons.1 hx with rfl | hx
    ·exact h3 _ b1 (by rw [hset _ b1]; simp)
    ·exact h2 x hx
   ·refine Ev.step (fun k => by simp only [spec_WayReach.l1, lt_mid, nn, if_true, rd_mid, w_succ (t := t) hp, b1, b2, d', Bool.false_eq_true, if_false, hq] <;> exact rfl) ?_
    rw [app_one p t suf]
    exact h6 r hr
theorem reach_end (n : Int) (E : List S51) (a : Int) (hE : ok n E) (f : List Bool) (hI : Inv n E a f [] (fun _ => False)) :
  ∃ f', Ev (fun k => spec_WayReach.l0 k f [] n E) f' ∧ (f'.length : Int) = n ∧ ∀ v, 0 ≤ v → v < n → (rdOf false f' v = true ↔ Conn E a v) := by
 refine ⟨f, Ev.step (fun k => by simp [spec_WayReach.l0] <;> exact rfl) (Ev.val rfl), hI.len, fun v h0 h1 => ⟨hI.conn v h0 h1, fun hc => ?_⟩⟩
 have key : 0 ≤ v ∧ v < n ∧ rdOf false f v = true := by
  refine hc.closed (fun x => 0 ≤ x ∧ x < n ∧ rdOf false f x = true) ?_ ?_
  ·have := hc.symm.range hE.2.2.1 ⟨h0, h1⟩
   exact ⟨this.1, this.2, hI.start⟩
  ·intro x y hx ht
   have := (tieOf_ends (hE.2.2.1 _ ht)).2.1
   rcases hI.done x hx.1 hx.2.1 hx.2.2 with h | h | h
   ·simp at h
   ·exact h.elim
   ·exact ⟨this.1, this.2, h y ht⟩
 exact key.2.2
theorem reach_l0 (n : Int) (E : List S51) (a : Int) (hE : ok n E) : ∀ (m : Nat) (f : List Bool) (q : List Int), 2 * cnt f + q.length ≤ m → m ≤ 1000 → Inv n E a f q (fun _ => False) →
  ∃ f', Ev (fun k => spec_WayReach.l0 k f q n E) f' ∧ (f'.length : Int) = n ∧ ∀ v, 0 ≤ v → v < n → (rdOf false f' v = true ↔ Conn E a v) := by
 intro m
 induction m with
 | zero =>
  intro f q h1 h2 hI
  have : q = [] := List.length_eq_zero_iff.1 (by omega)
  subst this
  exact reach_end n E a hE f hI
 | succ m ih =>
  intro f q h1 h2 hI
  cases q with
  | nil => exact reach_end n E a hE f hI
  | cons c q =>
   have hc := hI.queue c (List.mem_cons_self)
   have hcc := hI.conn c hc.1 hc.2.1 hc.2.2
   have hI1 : Inv n E a f q (fun v => v = c) := by
    refine ⟨hI.len, hI.start, hI.conn, fun x hx => hI.queue x (List.mem_cons_of_mem _ hx), fun v h0 h1 hv => ?_⟩
    rcases hI.done v h0 h1 hv with h | h | h
    ·rcases List.mem_cons.1 h with rfl | h
     ·exact .inr (.inl rfl)
     ·exact .inl h
    ·exact h.elim
    ·exact .inr (.inr h)
   have hlen : (((next n E c)).length : Int) < big := by
    have := List.length_filter_le (fun i => decide (tieOf c i ∈ E)) (knots n)
    have e := knots_len n
    have h8 := hE.2.1
    unfold big; unfold next; omega
   simp only [List.length_cons] at h1
   obtain ⟨f', q', i1, i2, i3, i4, i5, i6⟩ := reach_l1 n E a c hE.2.2.1 ⟨hc.1, hc.2.1⟩ hcc (next n E c) [] f q hlen (fun x hx => (mem_next hE.2.2.1).1 hx) (by omega) hI1
   have hI2 : Inv n E a f' q' (fun _ => False) := by
    refine ⟨i1.len, i1.start, i1.conn, i1.queue, fun v h0 h1 hv => ?_⟩
    rcases i1.done v h0 h1 hv with h | h | h
    ·exact .inl h
    ·refine .inr (.inr (fun w hw => ?_))
     subst h
     exact i2 w ((mem_next hE.2.2.1).2 hw)
    ·exact .inr (.inr h)
   obtain ⟨f2, j1, j2⟩ := ih f' q' (by omega) (by omega) hI2
   refine ⟨f2, ?_, j2⟩
   have g1 : ((c :: q).length : Int) > 0 := by rw [List.length_cons]; omega
   have g2 : (0 : Int) < ((c :: q).length : Int) := g1
   have g3 : (1 : Int) ≤ ((c :: q).length : Int) := by omega
   have g4 : rd (c :: q) 0 = c := rfl
   have g5 : (c :: q).drop ((1 : Int)).toNat = q := rfl
   refine Ev.step (fun k => by simp only [spec_WayReach.l0, g1, g2, g3, g4, g5, if_true] <;> exact rfl) ?_
   refine Ev.bind (next_ev n c E hE) ?_
   exact i6 f2 j1
theorem reach_ev (n : Int) (E : List S51) (a : Int) (hE : ok n E) (h0 : 0 ≤ a) (h1 : a < n) :
  ∃ f, Ev (fun k => spec_WayReach.f k n E a) f ∧ (f.length : Int) = n ∧ ∀ v, 0 ≤ v → v < n → (rdOf false f v = true ↔ Conn E a v) := by
 have h8 := hE.2.1
 have hb : (E.length : Int) < big := by have := ok_len hE; unfold big; omega
 have hn : n.toNat ≤ 281474976710656 := by omega
 have hl : ((List.replicate n.toNat false).length : Int) = n := by rw [List.length_replicate]; omega
 have hcnt : cnt (List.replicate n.toNat false) = n.toNat := by simp [cnt]
 have hrep : ∀ v : Int, rdOf false (List.replicate n.toNat false) v = false := fun v => by
  unfold rdOf
  rw [List.getD_eq_getElem?_getD, List.getElem?_replicate]
  split <;> rfl
 have hs := cnt_set (f := List.replicate n.toNat false) (i := a.toNat) (hrep a) (by omega)
 have hset : ∀ v, 0 ≤ v → rdOf false ((List.replicate n.toNat false).set a.toNat true) v = if a = v then true else false := fun v hv => by
  rw [rdOf_set h0 (by omega) hv, hrep]
 have hI : Inv n E a ((List.replicate n.toNat false).set a.toNat true) [a] (fun _ => False) := by
  refine ⟨by rw [List.length_set]; exact hl, by rw [hset a h0]; simp, ?_, ?_, ?_⟩
  ·intro v v0 v1 hv
   rw [hset v v0] at hv
   by_cases e : a = v
   ·subst e; exact .refl _
   ·rw [if_neg e] at hv; simp at hv
  ·intro x hx
   rw [List.mem_singleton] at hx
   subst hx
   exact ⟨h0, h1, by rw [hset _ h0]; simp⟩
  ·intro v v0 v1 hv
   rw [hset v v0] at hv
   by_cases e : a = v
   ·subst e; exact .inl (by simp)
   ·rw [if_neg e] at hv; simp at hv
 obtain ⟨f, r1, r2⟩ := reach_l0 n E a hE 100 _ [a] (by simp only [List.length_singleton]; omega) (by omega) hI
 refine ⟨f, ?_, r2⟩
 unfold spec_WayReach.f
 refine Ev.bind (l1Knot_ev n a E hb) ?_
 have c : ok n E ∧ 0 ≤ a ∧ a < n := ⟨hE, h0, h1⟩
 have l2 : a < ((List.replicate n.toNat false).length : Int) := by omega
 simp only [c, and_self, decide_true, if_true, hE.1, hn, Option.bind_some, h0, l2]
 exact r1
end Go.Proofs.YtjkeagcenmmknaaDoor.P
namespace Go.Proofs.YtjkeagcenmmknaaDoor.G
open Classical in
noncomputable def treeOn : List Tie → List Tie → List Tie
 | X, [] => X
 | X, t :: r => if Conn X t.f0 t.f1 then treeOn X r else treeOn (X ++ [t]) r
theorem treeOn_sub : ∀ (r X Y : List Tie), X.Sublist Y → (treeOn X r).Sublist (Y ++ r)
 | [], X, Y, h => by simpa [treeOn] using h
 | s :: r, X, Y, h => by
  have e : Y ++ s :: r = (Y ++ [s]) ++ r := by simp
  unfold treeOn
  rw [e]
  split
  ·exact treeOn_sub r X (Y ++ [s]) (h.trans (List.sublist_append_left _ _))
  ·exact treeOn_sub r (X ++ [s]) (Y ++ [s]) (h.append (List.Sublist.refl _))
noncomputable def tree (E : List Tie) : List Tie := treeOn [] E
theorem tree_sub (E : List Tie) : (tree E).Sublist E := by
 have := treeOn_sub E [] [] (List.Sublist.refl _)
 simpa [tree] using this
end Go.Proofs.YtjkeagcenmmknaaDoor.G
namespace Go.Proofs.YtjkeagcenmmknaaDoor.P
open Go.RowKit Go.Proofs.YtjkeagcenmmknaaDoorW.PrintWords Go.Proofs.YtjkeagcenmmknaaDoor.G
theorem rdTr_mid (pre : List S51) (t : S51) (suf : List S51) : rd_T51 (pre ++ t :: suf) (pre.length : Int) = t := by
 unfold rd_T51; exact getD_mid pre t suf _
theorem treeSpec_l0 (n : Int) (E : List S51) (hE : ok n E) : ∀ (suf p X : List S51), p ++ suf = E → X.Sublist p →
  Ev (fun k => spec_TreeOf.l0 k X (p.length : Int) n (p ++ suf)) (treeOn X suf) := by
 have hEl := ok_len hE
 intro suf
 induction suf with
 | nil =>
  intro p X he hX
  exact Ev.step (fun k => by simp only [spec_TreeOf.l0, nlt_end, if_false] <;> exact rfl) (Ev.val rfl)
 | cons t suf ih =>
  intro p X he hX
  have hp : (p.length : Int) < big := len_mid (suf := suf) (t := t) (by rw [he]; unfold big; omega)
  have ht := hE.2.2.1 t (by rw [← he]; simp)
  have ht' := ht
  unfold inr at ht'
  have hXE : X.Sublist E := hX.trans (by rw [← he]; exact List.sublist_append_left _ _)
  have hXl : X.length < 8796093022208 := by have := hXE.length_le; omega
  obtain ⟨f, f1, f2, f3⟩ := reach_ev n X t.f0 (ok_sublist hE hXE) (by omega) (by omega)
  have g0 : 0 ≤ t.f1 := by omega
  have g1 : t.f1 < (f.length : Int) := by omega
  have f3' := f3 t.f1 (by omega) (by omega)
  refine Ev.step (fun k => by simp only [spec_TreeOf.l0, lt_mid, nn, if_true, rdTr_mid, w_succ (t := t) hp] <;> exact rfl) ?_
  refine Ev.bind f1 ?_
  simp only [if_pos g0, if_pos g1]
  rw [app_one p t suf]
  by_cases c : Conn X t.f0 t.f1
  ·have e : treeOn X (t :: suf) = treeOn X suf := by rw [treeOn, if_pos c]
   have c' : rdOf false f t.f1 = true := f3'.2 c
   rw [e]
   simp only [c', if_true]
   exact ih (p ++ [t]) X (by rw [← he]; simp) (hX.trans (List.sublist_append_left _ _))
  ·have e : treeOn X (t :: suf) = treeOn (X ++ [t]) suf := by rw [treeOn, if_neg c]
   have c' : rdOf false f t.f1 = false := by
    cases q : rdOf false f t.f1 with
    | true => exact absurd (f3'.1 q) c
    | false => rfl
   rw [e]
   simp only [c', Bool.false_eq_true, if_false, if_pos hXl]
   exact ih (p ++ [t]) (X ++ [t]) (by rw [← he]; simp) (hX.append (List.Sublist.refl _))
open Classical in
theorem treeSpec (n : Int) (E : List S51) (hE : (E.length : Int) < big) : Ev (fun k => spec_TreeOf.f k n E) (if ok n E then tree E else []) := by
 unfold spec_TreeOf.f
 simp only [Option.bind_some]
 refine Ev.bind (specOk n E hE) ?_
 by_cases c : ok n E
 ·simp only [c, decide_true, if_true]
  exact treeSpec_l0 n E c E [] [] rfl (List.Sublist.refl _)
 ·simp only [c, decide_false, Bool.false_eq_true, if_false]
  exact Ev.val rfl
end Go.Proofs.YtjkeagcenmmknaaDoor.P
namespace Go.Proofs.YtjkeagcenmmknaaDoor.P
open Go.RowKit Go.Proofs.YtjkeagcenmmknaaDoorW.PrintWords Go.Proofs.YtjkeagcenmmknaaDoor.G
theorem rdC_mid (pre : List S51) (t : S51) (suf : List S51) : rd_T51 (pre ++ t :: suf) (pre.length : Int) = t := by
 unfold rd_T51; exact getD_mid pre t suf _
theorem tie_beq2 (a b : Int) (t : Tie) : (a == t.f0 && (b == t.f1)) = decide ((⟨a, b⟩ : Tie) = t) := by
 obtain ⟨c, d⟩ := t
 simp only [Tie.mk.injEq]
 by_cases h : a = c <;> by_cases k : b = d <;> simp [h, k]
theorem indexTie_l0 (a b : Int) : ∀ (suf p : List S51), ((p ++ suf).length : Int) < big →
  ∃ r, Ev (fun k => slices_Index_impl_Tie_impl_Tie.l0 k (p ++ suf) ((p ++ suf).length : Int) (p.length : Int) a b) r ∧ (r ≥ 0 ↔ (⟨a, b⟩ : Tie) ∈ suf) := by
 intro suf
 induction suf with
 | nil =>
  intro p hb
  refine ⟨-1, Ev.step (fun k => by simp only [slices_Index_impl_Tie_impl_Tie.l0, nlt_end, if_false] <;> exact rfl) (Ev.val rfl), by simp⟩
 | cons t suf ih =>
  intro p hb
  have hp : (p.length : Int) < big := len_mid hb
  by_cases c : (⟨a, b⟩ : Tie) = t
  ·refine ⟨p.length, ?_, ?_⟩
   ·refine Ev.step (fun k => by simp only [slices_Index_impl_Tie_impl_Tie.l0, lt_mid, nn, if_true, rdC_mid, w_succ (t := t) hp, tie_beq2, decide_eq_true_eq, if_pos c] <;> exact rfl) ?_
    exact Ev.val rfl
   ·simp [c]
  ·obtain ⟨r, hr, hi⟩ := ih (p ++ [t]) (len_app hb)
   refine ⟨r, ?_, ?_⟩
   ·refine Ev.step (fun k => by simp only [slices_Index_impl_Tie_impl_Tie.l0, lt_mid, nn, if_true, rdC_mid, w_succ (t := t) hp, tie_beq2, decide_eq_true_eq, if_neg c] <;> exact rfl) ?_
    rw [app_one p t suf]
    exact hr
   ·rw [hi]; simp [c]
theorem containsTie_ev (E : List S51) (a b : Int) (hb : (E.length : Int) < big) : Ev (fun k => slices_Contains_impl_Tie_impl_Tie.f k E a b) (decide ((⟨a, b⟩ : Tie) ∈ E)) := by
 unfold slices_Contains_impl_Tie_impl_Tie.f slices_Index_impl_Tie_impl_Tie.f
 obtain ⟨r, hr, hi⟩ := indexTie_l0 a b E [] hb
 refine Ev.bind hr (Ev.val ?_)
 exact congrArg some (decide_eq_decide.2 hi)
end Go.Proofs.YtjkeagcenmmknaaDoor.P
namespace Go.Proofs.YtjkeagcenmmknaaDoor.P
open Go.RowKit Go.Proofs.YtjkeagcenmmknaaDoorW.PrintWords Go.Proofs.YtjkeagcenmmknaaDoor.G
theorem indexInt_l0 (a : Int) : ∀ (suf p : List Int), ((p ++ suf).length : Int) < big →
  ∃ r, Ev (fun k => slices_Index_int_int.l0 k (p ++ suf) a ((p ++ suf).length : Int) (p.length : Int)) r ∧ (r ≥ 0 ↔ a ∈ suf) := by
 intro suf
 induction suf with
 | nil =>
  intro p hb
  refine ⟨-1, Ev.step (fun k => by simp only [slices_Index_int_int.l0, nlt_end, if_false] <;> exact rfl) (Ev.val rfl), by simp⟩
 | cons t suf ih =>
  intro p hb
  have hp : (p.length : Int) < big := len_mid hb
  by_cases c : a = t
  ·refine ⟨p.length, ?_, ?_⟩
   ·refine Ev.step (fun k => by simp only [slices_Index_int_int.l0, lt_mid, nn, if_true, rd_mid, w_succ (t := t) hp, if_pos c] <;> exact rfl) ?_
    exact Ev.val rfl
   ·simp [c]
  ·obtain ⟨r, hr, hi⟩ := ih (p ++ [t]) (len_app hb)
   refine ⟨r, ?_, ?_⟩
   ·refine Ev.step (fun k => by simp only [slices_Index_int_int.l0, lt_mid, nn, if_true, rd_mid, w_succ (t := t) hp, if_neg c] <;> exact rfl) ?_
    rw [app_one p t suf]
    exact hr
   ·rw [hi]; simp [c]
theorem containsInt_ev (l : List Int) (a : Int) (hb : (l.length : Int) < big) : Ev (fun k => slices_Contains_int_int.f k l a) (decide (a ∈ l)) := by
 unfold slices_Contains_int_int.f slices_Index_int_int.f
 obtain ⟨r, hr, hi⟩ := indexInt_l0 a l [] hb
 refine Ev.bind hr (Ev.val ?_)
 exact congrArg some (decide_eq_decide.2 hi)
def fresh : List Int → List Int → Prop
 | _, [] => True
 | vs, x :: r => x ∉ vs ∧ fresh (vs ++ [x]) r
instance fresh_dec : (vs l : List Int) → Decidable (fresh vs l)
 | _, [] => isTrue trivial
 | vs, x :: r => by
  have := fresh_dec (vs ++ [x]) r
  unfold fresh
  infer_instance
theorem fresh_iff (l : List Int) : ∀ vs : List Int, fresh vs l ↔ l.Nodup ∧ ∀ x ∈ l, x ∉ vs := by
 induction l with
 | nil => intro vs; simp [fresh]
 | cons x r ih =>
  intro vs
  unfold fresh
  rw [ih, List.nodup_cons]
  constructor
  ·rintro ⟨h1, h2, h3⟩
   refine ⟨⟨fun hx => ?_, h2⟩, fun y hy => ?_⟩
   ·exact h3 x hx (by simp)
   ·rcases List.mem_cons.1 hy with rfl | hy
    ·exact h1
    ·exact fun hv => h3 y hy (by simp [hv])
  ·rintro ⟨⟨h1, h2⟩, h3⟩
   refine ⟨h3 x (by simp), h2, fun y hy hv => ?_⟩
   rcases List.mem_append.1 hv with hv | hv
   ·exact h3 y (by simp [hy]) hv
   ·rw [List.mem_singleton] at hv
    subst hv
    exact h1 hy
theorem different_l0 : ∀ (suf p : List Int), ((p ++ suf).length : Int) < big →
  Ev (fun k => impl_different.l0 k (p ++ suf) (p ++ suf) ((p ++ suf).length : Int) (p.length : Int)) (decide (fresh p suf)) := by
 intro suf
 induction suf with
 | nil =>
  intro p hb
  refine Ev.step (fun k => by simp only [impl_different.l0, nlt_end, if_false] <;> exact rfl) ?_
  exact Ev.val (congrArg some (decide_eq_true (by simp [fresh])).symm)
 | cons t suf ih =>
  intro p hb
  have hp : (p.length : Int) < big := len_mid hb
  have hle : (p.length : Int) ≤ ((p ++ t :: suf).length : Int) := Int.le_of_lt (lt_mid _ _ _)
  have htk : (p ++ t :: suf).take ((p.length : Int)).toNat = p := by simp
  refine Ev.step (fun k => by simp only [impl_different.l0, lt_mid, nn, if_true, rd_mid, w_succ (t := t) hp, hle, htk] <;> exact rfl) ?_
  refine Ev.bind (containsInt_ev p t hp) ?_
  by_cases c : t ∈ p
  ·simp only [c, decide_true, if_true]
   exact Ev.val (congrArg some (decide_eq_false (by simp [fresh, c])).symm)
  ·simp only [c, decide_false, Bool.false_eq_true, if_false]
   rw [app_one p t suf]
   refine Ev.eq (ih (p ++ [t]) (len_app hb)) ?_
   rw [decide_eq_decide]
   simp [fresh, c]
theorem different_ev (l : List Int) (hb : (l.length : Int) < big) : Ev (fun k => impl_different.f k l) (decide l.Nodup) := by
 unfold impl_different.f
 refine Ev.eq (different_l0 l [] hb) ?_
 rw [decide_eq_decide, fresh_iff]
 simp
end Go.Proofs.YtjkeagcenmmknaaDoor.P
namespace Go.Proofs.YtjkeagcenmmknaaDoor.G
open Go.RowKit Go.Proofs.YtjkeagcenmmknaaDoorW.PrintWords
def verts (L : List Tie) : List Int := L.flatMap fun t => [t.f0, t.f1]
def flags (n : Int) (vs : List Int) : List Bool := (List.range n.toNat).map fun (i : Nat) => decide ((i : Int) ∈ vs)
theorem flags_len (n : Int) (vs : List Int) (h : 0 ≤ n) : ((flags n vs).length : Int) = n := by simp [flags]; omega
theorem flags_rd {n : Int} {vs : List Int} {v : Int} (h0 : 0 ≤ v) (h1 : v < n) : rdOf false (flags n vs) v = decide (v ∈ vs) := by
 unfold rdOf flags
 rw [List.getD_eq_getElem?_getD, List.getElem?_map, List.getElem?_range (by omega)]
 simp [Int.toNat_of_nonneg h0]
theorem flags_set {n : Int} {vs : List Int} {v : Int} (h0 : 0 ≤ v) (h1 : v < n) : (flags n vs).set v.toNat true = flags n (v :: vs) := by
 apply List.ext_getElem?
 intro i
 unfold flags
 rw [List.getElem?_set]
 by_cases hi : v.toNat = i
 ·subst hi
  rw [if_pos rfl, if_pos (by simp; omega), List.getElem?_map, List.getElem?_range (by omega)]
  simp [Int.toNat_of_nonneg h0]
 ·rw [if_neg hi]
  rw [List.getElem?_map, List.getElem?_map]
  by_cases h : i < n.toNat
  ·rw [List.getElem?_range h]
   have : ¬ (i : Int) = v := by omega
   simp [this]
  ·rw [List.getElem?_eq_none (by simp; omega)]
   rfl
theorem flags_none (n : Int) : List.replicate n.toNat false = flags n [] := by
 apply List.ext_getElem?
 intro i
 unfold flags
 by_cases h : i < n.toNat
 ·rw [List.getElem?_map, List.getElem?_range h]; simp [h]
 ·rw [List.getElem?_eq_none (by simp; omega), List.getElem?_eq_none (by simp; omega)]
end Go.Proofs.YtjkeagcenmmknaaDoor.G
namespace Go.Proofs.YtjkeagcenmmknaaDoor.G
open Go.RowKit Go.Proofs.YtjkeagcenmmknaaDoorW.PrintWords
def pairOk (n : Int) (E L : List Tie) : Prop := ok n E ∧ (∀ t ∈ L, t ∈ E) ∧ asc L ∧ (verts L).Nodup
instance (n : Int) (E L : List Tie) : Decidable (pairOk n E L) := by unfold pairOk; infer_instance
def free (E : List Tie) : List Int → List Tie → Prop
 | _, [] => True
 | vs, t :: r => t ∈ E ∧ t.f0 ∉ vs ∧ t.f1 ∉ vs ∧ free E (t.f1 :: t.f0 :: vs) r
instance free_dec (E : List Tie) : (vs : List Int) → (l : List Tie) → Decidable (free E vs l)
 | _, [] => isTrue trivial
 | vs, t :: r => by
  have := free_dec E (t.f1 :: t.f0 :: vs) r
  unfold free
  infer_instance
theorem free_iff (E : List Tie) (L : List Tie) : ∀ vs : List Int, (∀ t ∈ L, t.f0 ≠ t.f1) → (free E vs L ↔ (∀ t ∈ L, t ∈ E) ∧ (verts L).Nodup ∧ ∀ v ∈ verts L, v ∉ vs) := by
 induction L with
 | nil => intro vs _; simp [free, verts]
 | cons t r ih =>
  intro vs hne
  have hv : verts (t :: r) = t.f0 :: t.f1 :: verts r := rfl
  have h01 : t.f0 ≠ t.f1 := hne t (List.mem_cons_self)
  unfold free
  rw [ih _ (fun s hs => hne s (List.mem_cons_of_mem _ hs)), hv, List.nodup_cons, List.nodup_cons]
  constructor
  ·rintro ⟨h1, h2, h3, h4, h5, h6⟩
   refine ⟨fun s hs => ?_, ⟨?_, ?_, h5⟩, fun v hv' => ?_⟩
   ·rcases List.mem_cons.1 hs with rfl | hs
    ·exact h1
    ·exact h4 s hs
   ·intro hm
    rcases List.mem_cons.1 hm with e | hm
    ·exact h01 e
    ·exact h6 _ hm (by simp)
   ·intro hm
    exact h6 _ hm (by simp)
   ·rcases List.mem_cons.1 hv' with rfl | hv'
    ·exact h2
    ·rcases List.mem_cons.1 hv' with rfl | hv'
     ·exact h3
     ·exact fun hvs => h6 v hv' (by simp [hvs])
  ·rintro ⟨h1, ⟨h2, h3, h4⟩, h5⟩
   refine ⟨h1 t (List.mem_cons_self), h5 _ (by simp), h5 _ (by simp), fun s hs => h1 s (List.mem_cons_of_mem _ hs), h4, fun v hv' hm => ?_⟩
   rcases List.mem_cons.1 hm with rfl | hm
   ·exact h3 hv'
   ·rcases List.mem_cons.1 hm with rfl | hm
    ·exact h2 (List.mem_cons_of_mem _ hv')
    ·exact h5 v (by simp [hv']) hm
end Go.Proofs.YtjkeagcenmmknaaDoor.G
namespace Go.Proofs.YtjkeagcenmmknaaDoor.P
open Go.RowKit Go.Proofs.YtjkeagcenmmknaaDoorW.PrintWords Go.Proofs.YtjkeagcenmmknaaDoor.G
theorem pairSpec_l0 (n : Int) (E : List S51) (h0 : 0 ≤ n) (hE : (E.length : Int) < big) : ∀ (suf p : List S51) (vs : List Int), ((p ++ suf).length : Int) < big → (∀ t ∈ suf, inr n t) →
  Ev (fun k => spec_PairOk.l0 k (p ++ suf) (flags n vs) (p.length : Int) n E) (decide (free E vs suf)) := by
 intro suf
 induction suf with
 | nil =>
  intro p vs hb hi
  refine Ev.step (fun k => by simp only [spec_PairOk.l0, nlt_end, if_false] <;> exact rfl) ?_
  exact Ev.val (congrArg some (decide_eq_true (by simp [free])).symm)
 | cons t suf ih =>
  intro p vs hb hi
  have hp : (p.length : Int) < big := len_mid hb
  have ht : inr n t := hi t (List.mem_cons_self)
  have ht' := ht
  unfold inr at ht'
  have b1 : 0 ≤ t.f0 := ht'.1
  have b2 : t.f0 < n := by omega
  have b3 : 0 ≤ t.f1 := by omega
  have b4 : t.f1 < n := ht'.2.2
  refine Ev.step (fun k => by simp only [spec_PairOk.l0, lt_mid, nn, if_true, rdH_mid, w_succ (t := t) hp, b1, b3, flags_len n vs h0, b2, b4, flags_rd b1 b2, flags_rd b3 b4, flags_set b1 b2, flags_set b3 b4, decide_eq_true_eq] <;> exact rfl) ?_
  refine Ev.bind (l1Has_ev n _ _ E hE) ?_
  rw [tieOf_inr ht]
  by_cases c : t ∈ E
  ·simp only [c, decide_true, if_true]
   by_cases c1 : t.f0 ∈ vs
   ·simp only [if_pos c1]
    exact Ev.val (congrArg some (decide_eq_false (by simp [free, c1])).symm)
   ·simp only [if_neg c1]
    by_cases c2 : t.f1 ∈ vs
    ·simp only [if_pos c2]
     exact Ev.val (congrArg some (decide_eq_false (by simp [free, c2])).symm)
    ·simp only [if_neg c2]
     rw [app_one p t suf]
     refine Ev.eq (ih (p ++ [t]) (t.f1 :: t.f0 :: vs) (len_app hb) (fun s hs => hi s (List.mem_cons_of_mem _ hs))) ?_
     rw [decide_eq_decide]
     simp [free, c, c1, c2]
  ·simp only [c, decide_false, Bool.false_eq_true, if_false]
   exact Ev.val (congrArg some (decide_eq_false (by simp [free, c])).symm)
theorem pairOk_iff {n : Int} {E L : List Tie} (hE : ok n E) : pairOk n E L ↔ ok n L ∧ free E [] L := by
 constructor
 ·rintro ⟨_, h1, h2, h3⟩
  have hi : ∀ t ∈ L, inr n t := fun t ht => hE.2.2.1 t (h1 t ht)
  exact ⟨⟨hE.1, hE.2.1, hi, h2⟩, (free_iff E L [] (fun t ht => by have := (hi t ht).2.1; omega)).2 ⟨h1, h3, by simp⟩⟩
 ·rintro ⟨h1, h2⟩
  obtain ⟨a, b, _⟩ := (free_iff E L [] (fun t ht => by have := (h1.2.2.1 t ht).2.1; omega)).1 h2
  exact ⟨hE, a, h1.2.2.2, b⟩
theorem pairSpec (n : Int) (E L : List S51) (hE : (E.length : Int) < big) (hL : (L.length : Int) < big) : Ev (fun k => spec_PairOk.f k n E L) (decide (pairOk n E L)) := by
 unfold spec_PairOk.f
 refine Ev.bind (specOk n E hE) ?_
 by_cases c : ok n E
 ·simp only [c, decide_true, if_true]
  refine Ev.bind (specOk n L hL) ?_
  by_cases d : ok n L
  ·have h0 : 0 ≤ n := c.1
   have h1 : n.toNat ≤ 281474976710656 := by have := c.2.1; omega
   refine Ev.step (fun k => by simp only [spec_PairOk.j0, d, decide_true, Bool.not_true, Bool.false_eq_true, if_false, h0, h1, if_true, flags_none] <;> exact rfl) ?_
   refine Ev.eq (pairSpec_l0 n E h0 hE L [] [] hL d.2.2.1) ?_
   rw [decide_eq_decide, pairOk_iff c]
   simp [d]
  ·refine Ev.step (fun k => by simp only [spec_PairOk.j0, d, decide_false, Bool.not_false, if_true] <;> exact rfl) ?_
   exact Ev.val (congrArg some (decide_eq_false (by rw [pairOk_iff c]; simp [d])).symm)
 ·simp only [c, decide_false, Bool.false_eq_true, if_false]
  refine Ev.step (fun k => by simp only [spec_PairOk.j0, if_true] <;> exact rfl) ?_
  exact Ev.val (congrArg some (decide_eq_false (by simp [pairOk, c])).symm)
theorem own_l0 (n : Int) (E L : List S51) (hE : (E.length : Int) < big) (hL : (L.length : Int) < big) : ∀ (suf p : List S51), ((p ++ suf).length : Int) < big →
  Ev (fun k => impl_Net_own.l0 k L (p ++ suf) ((p ++ suf).length : Int) (p.length : Int) n E) (decide ((∀ t ∈ suf, t ∈ E) ∧ asc L)) := by
 intro suf
 induction suf with
 | nil =>
  intro p hb
  refine Ev.step (fun k => by simp only [impl_Net_own.l0, nlt_end, if_false] <;> exact rfl) ?_
  refine Ev.bind (ascending_ev L hL) ?_
  exact Ev.val (by simp)
 | cons t suf ih =>
  intro p hb
  have hp : (p.length : Int) < big := len_mid hb
  refine Ev.step (fun k => by simp only [impl_Net_own.l0, lt_mid, nn, if_true, rdH_mid, w_succ (t := t) hp] <;> exact rfl) ?_
  refine Ev.bind (containsTie_ev E _ _ hE) ?_
  by_cases c : t ∈ E
  ·have c' : (⟨t.f0, t.f1⟩ : Tie) ∈ E := c
   simp only [c', decide_true, if_true]
   rw [app_one p t suf]
   refine Ev.eq (ih (p ++ [t]) (len_app hb)) ?_
   rw [decide_eq_decide]
   simp [c]
  ·have c' : ¬ (⟨t.f0, t.f1⟩ : Tie) ∈ E := c
   simp only [c', decide_false, Bool.false_eq_true, if_false]
   exact Ev.val (congrArg some (decide_eq_false (by simp [c])).symm)
theorem own_ev (n : Int) (E L : List S51) (hE : (E.length : Int) < big) (hL : (L.length : Int) < big) : Ev (fun k => impl_Net_own.f k n E L) (decide ((∀ t ∈ L, t ∈ E) ∧ asc L)) := by
 unfold impl_Net_own.f
 exact own_l0 n E L hE hL L [] hL
theorem verts_app (p : List Tie) (t : Tie) : verts (p ++ [t]) = verts p ++ [t.f0, t.f1] := by simp [verts]
theorem verts_len (p : List Tie) : (verts p).length = 2 * p.length := by
 induction p with
 | nil => rfl
 | cons t r ih =>
  have : verts (t :: r) = t.f0 :: t.f1 :: verts r := rfl
  rw [this]; simp [ih]; omega
theorem pairImpl_l0 : ∀ (suf p : List S51), ((p ++ suf).length : Int) ≤ 1048576 →
  Ev (fun k => impl_PairOk.l0 k (verts p) (p ++ suf) ((p ++ suf).length : Int) (p.length : Int)) (decide (verts (p ++ suf)).Nodup) := by
 intro suf
 induction suf with
 | nil =>
  intro p hb
  refine Ev.step (fun k => by simp only [impl_PairOk.l0, nlt_end, if_false] <;> exact rfl) ?_
  refine Ev.bind (different_ev _ (by rw [verts_len]; simp at hb; unfold big; omega)) ?_
  exact Ev.val (by simp)
 | cons t suf ih =>
  intro p hb
  have hb' : ((p ++ t :: suf).length : Int) < big := by unfold big; omega
  have hp : (p.length : Int) < big := len_mid hb'
  have hl : (verts p).length + ([t.f0, t.f1] : List Int).length < 17592186044416 := by
   rw [verts_len]; simp at hb ⊢; omega
  refine Ev.step (fun k => by simp only [impl_PairOk.l0, lt_mid, nn, if_true, rdH_mid, w_succ (t := t) hp, Option.bind_some, hl, ← verts_app] <;> exact rfl) ?_
  rw [app_one p t suf]
  exact ih (p ++ [t]) (by rw [← app_one]; exact hb)
theorem pairImpl (n : Int) (E L : List S51) (hE : (E.length : Int) < big) (hL : (L.length : Int) ≤ 1048576) : Ev (fun k => impl_PairOk.f k n E L) (decide (pairOk n E L)) := by
 unfold impl_PairOk.f
 refine Ev.bind (implOk n E hE) ?_
 by_cases c : ok n E
 ·simp only [c, decide_true, if_true]
  refine Ev.bind (own_ev n E L hE (by unfold big; omega)) ?_
  by_cases d : (∀ t ∈ L, t ∈ E) ∧ asc L
  ·have e : (!decide ((∀ t ∈ L, t ∈ E) ∧ asc L)) = false := by rw [decide_eq_true d]; rfl
   refine Ev.step (fun k => by simp only [impl_PairOk.j0, e, Bool.false_eq_true, if_false] <;> exact rfl) ?_
   refine Ev.eq (pairImpl_l0 L [] hL) ?_
   rw [decide_eq_decide]
   unfold pairOk
   exact ⟨fun h => ⟨c, d.1, d.2, h⟩, fun h => h.2.2.2⟩
  ·have e : (!decide ((∀ t ∈ L, t ∈ E) ∧ asc L)) = true := by simp only [d, decide_false, Bool.not_false]
   refine Ev.step (fun k => by simp only [impl_PairOk.j0, e, if_true] <;> exact rfl) ?_
   exact Ev.val (congrArg some (decide_eq_false (fun h => d ⟨h.2.1, h.2.2.1⟩)).symm)
 ·simp only [c, decide_false, Bool.false_eq_true, if_false]
  refine Ev.step (fun k => by simp only [impl_PairOk.j0, if_true] <;> exact rfl) ?_
  exact Ev.val (congrArg some (decide_eq_false (by simp [pairOk, c])).symm)
end Go.Proofs.YtjkeagcenmmknaaDoor.P
namespace Go.Proofs.YtjkeagcenmmknaaDoor.P
open Go.RowKit Go.Proofs.YtjkeagcenmmknaaDoorW.PrintWords Go.Proofs.YtjkeagcenmmknaaDoor.G
theorem dpok_l0 (s : List Int) (hs : octs s) (hl : s.length ≤ 2000) (n : Int) (E : List S51) (hE : E.length ≤ 50) : ∀ (suf p L : List S51) (q : Int), p ++ suf = E → L.length ≤ p.length → 0 ≤ q → q + 2 * suf.length ≤ 70000 →
  ∃ L', Ev (fun k => spec_DrawPairOk.l0 k L (p.length : Int) s q n (p ++ suf)) (n, p ++ suf, L') ∧ L'.length ≤ 50 := by
 have hEb : (E.length : Int) < big := by unfold big; omega
 intro suf
 induction suf with
 | nil =>
  intro p L q he hL h0 h1
  refine ⟨L, Ev.step (fun k => by simp only [spec_DrawPairOk.l0, nlt_end, if_false] <;> exact rfl) (Ev.val rfl), ?_⟩
  rw [← he] at hE
  simp at hE
  omega
 | cons t suf ih =>
  intro p L q he hL h0 h1
  simp only [List.length_cons] at h1
  have hpl : p.length + suf.length + 1 ≤ 50 := by
   rw [← he] at hE
   simp at hE
   omega
  have hp : (p.length : Int) < big := by unfold big; omega
  have e1 : p ++ t :: suf = (p ++ [t]) ++ suf := by simp
  have he' : (p ++ [t]) ++ suf = E := by rw [← e1]; exact he
  obtain ⟨u, u1, u2, u3⟩ := pick_ev s hs hl q 2 h0 (by omega)
  by_cases c : u = 0
  ·obtain ⟨v, v1, v2, v3⟩ := pick_ev s hs hl (q + 1) 12 (by omega) (by omega)
   have z1 : L.length + ([t] : List S51).length < 8796093022208 := by simp; omega
   obtain ⟨A, a1, a2⟩ := ih (p ++ [t]) (L ++ [t]) (q + 1 + 1) he' (by simp; omega) (by omega) (by omega)
   obtain ⟨B, b1, b2⟩ := ih (p ++ [t]) L (q + 1 + 1) he' (by simp; omega) (by omega) (by omega)
   by_cases d : v = 0
   ·refine ⟨A, ?_, a2⟩
    refine Ev.step (fun k => by simp only [spec_DrawPairOk.l0, lt_mid, nn, if_true, rdTr_mid, w_succ (t := t) hp, Option.bind_some, if_pos z1] <;> exact rfl) ?_
    refine Ev.bind u1 ?_
    simp only [if_pos c]
    refine Ev.bind v1 ?_
    simp only [if_pos d]
    rw [e1]
    exact a1
   ·have z2 : ([] : List S51).length + L.length < 8796093022208 := by simp; omega
    have z3 : (([] : List S51) ++ L).length + ([t] : List S51).length < 8796093022208 := by simp; omega
    have k1 := pairSpec n E (([] : List S51) ++ L ++ [t]) hEb (by unfold big; simp; omega)
    have step : ∀ r, Ev (fun k => if decide (pairOk n E (([] : List S51) ++ L ++ [t])) = true then spec_DrawPairOk.l0 k (L ++ [t]) ((p ++ [t]).length : Int) s (q + 1 + 1) n (p ++ t :: suf) else spec_DrawPairOk.l0 k L ((p ++ [t]).length : Int) s (q + 1 + 1) n (p ++ t :: suf)) r →
      Ev (fun k => spec_DrawPairOk.l0 k L (p.length : Int) s q n (p ++ t :: suf)) r := by
     intro r hr
     refine Ev.step (fun k => by simp only [spec_DrawPairOk.l0, lt_mid, nn, if_true, rdTr_mid, w_succ (t := t) hp, Option.bind_some, if_pos z1, if_pos z2, if_pos z3] <;> exact rfl) ?_
     refine Ev.bind u1 ?_
     simp only [if_pos c]
     refine Ev.bind v1 ?_
     simp only [if_neg d]
     rw [← he] at k1
     refine Ev.bind k1 ?_
     rw [← he] at hr
     exact hr
    by_cases w : pairOk n E (([] : List S51) ++ L ++ [t])
    ·refine ⟨A, step _ ?_, a2⟩
     simp only [decide_eq_true w, if_true]
     rw [e1]
     exact a1
    ·refine ⟨B, step _ ?_, b2⟩
     simp only [decide_eq_false w, Bool.false_eq_true, if_false]
     rw [e1]
     exact b1
  ·obtain ⟨B, b1, b2⟩ := ih (p ++ [t]) L (q + 1) he' (by simp; omega) (by omega) (by omega)
   refine ⟨B, ?_, b2⟩
   refine Ev.step (fun k => by simp only [spec_DrawPairOk.l0, lt_mid, nn, if_true, rdTr_mid, w_succ (t := t) hp, Option.bind_some] <;> exact rfl) ?_
   refine Ev.bind u1 ?_
   simp only [if_neg c]
   rw [e1]
   exact b1
theorem drawPairOk_ev (l : List Int) (h : octs l) : ∃ n E L, Ev (fun k => spec_DrawPairOk.f k l) (n, E, L) ∧ E.length ≤ 50 ∧ L.length ≤ 50 := by
 obtain ⟨s, o1, o2, o3⟩ := open_eq l h
 obtain ⟨⟨n, E, q⟩, r1, r2⟩ := any_ev s o2 o3 0 (by omega) (by omega)
 simp only [Drawn] at r2
 obtain ⟨v, v1, v2, v3⟩ := pick_ev s o2 o3 q 4 (by omega) (by omega)
 unfold spec_DrawPairOk.f
 simp only [o1, Option.bind_some]
 by_cases c : v = 0
 ·have t1 := treeSpec n E (by unfold big; omega)
  have tl : (if ok n E then tree E else []).length ≤ 50 := by
   split
   ·have := (tree_sub E).length_le; omega
   ·simp
  refine ⟨n, E, _, Ev.bind r1 (Ev.bind v1 ?_), by omega, tl⟩
  simp only [if_pos c]
  exact Ev.bind t1 (Ev.val rfl)
 ·obtain ⟨L, l1, l2⟩ := dpok_l0 s o2 o3 n E (by omega) E [] [] (q + 1) rfl (by simp) (by omega) (by omega)
  refine ⟨n, E, L, Ev.bind r1 (Ev.bind v1 ?_), by omega, l2⟩
  simp only [if_neg c]
  exact l1
end Go.Proofs.YtjkeagcenmmknaaDoor.P
namespace Go.Proofs.YtjkeagcenmmknaaDoor.G
open Go.RowKit Go.Proofs.YtjkeagcenmmknaaDoorW.PrintWords
def most : List Tie → List Int → Nat
 | [], _ => 0
 | t :: r, vs => if t.f0 ∈ vs ∨ t.f1 ∈ vs then most r vs else max (most r vs) (1 + most r (t.f1 :: t.f0 :: vs))
def fits (E : List Tie) (vs : List Int) (L : List Tie) : Prop := (∀ t ∈ L, t ∈ E) ∧ (verts L).Nodup ∧ ∀ v ∈ verts L, v ∉ vs
theorem verts_cons (t : Tie) (L : List Tie) : verts (t :: L) = t.f0 :: t.f1 :: verts L := rfl
theorem mem_verts {L : List Tie} {v : Int} : v ∈ verts L ↔ ∃ t ∈ L, v = t.f0 ∨ v = t.f1 := by
 unfold verts
 simp only [List.mem_flatMap, List.mem_cons, List.not_mem_nil, or_false]
theorem verts_perm {L M : List Tie} (h : L.Perm M) : (verts L).Perm (verts M) := h.flatMap_right _
theorem fits_erase {E : List Tie} {vs : List Int} {L : List Tie} {t : Tie} (h : fits E vs L) (ht : t ∈ L) :
  t.f0 ∉ vs ∧ t.f1 ∉ vs ∧ t.f0 ≠ t.f1 ∧ L.length = (L.erase t).length + 1 ∧ (∀ s ∈ L.erase t, s ∈ L ∧ s ≠ t) ∧ (verts (L.erase t)).Nodup ∧ ∀ v ∈ verts (L.erase t), v ∉ vs ∧ v ≠ t.f0 ∧ v ≠ t.f1 := by
 have p := List.perm_cons_erase ht
 have q := verts_perm p
 rw [verts_cons] at q
 have nd := q.nodup_iff.1 h.2.1
 rw [List.nodup_cons, List.nodup_cons] at nd
 obtain ⟨n1, n2, n3⟩ := nd
 refine ⟨h.2.2 _ (q.mem_iff.2 (by simp)), h.2.2 _ (q.mem_iff.2 (by simp)), fun e => n1 (by rw [e]; simp), by have := p.length_eq; simpa using this, fun s hs => ⟨List.mem_of_mem_erase hs, fun e => ?_⟩, n3, fun v hv => ⟨h.2.2 _ (q.mem_iff.2 (by simp [hv])), fun e => ?_, fun e => ?_⟩⟩
 ·subst e
  exact n2 (mem_verts.2 ⟨s, hs, Or.inr rfl⟩)
 ·subst e; exact n1 (by simp [hv])
 ·subst e; exact n2 hv
theorem most_le : ∀ (E : List Tie) (vs : List Int) (L : List Tie), fits E vs L → L.length ≤ most E vs
 | [], vs, L, h => by
  cases L with
  | nil => simp
  | cons t r => exact absurd (h.1 t (by simp)) (by simp)
 | t :: r, vs, L, h => by
  unfold most
  by_cases ht : t ∈ L
  ·obtain ⟨a, b, c, d, e, f, g⟩ := fits_erase h ht
   rw [if_neg (by intro o; rcases o with o | o; exact a o; exact b o)]
   have := most_le r (t.f1 :: t.f0 :: vs) (L.erase t) ⟨fun s hs => by
    have := h.1 s (e s hs).1
    rcases List.mem_cons.1 this with q | q
    ·exact absurd q (e s hs).2
    ·exact q, f, fun v hv => by
    have := g v hv
    simp only [List.mem_cons, not_or]
    exact ⟨this.2.2, this.2.1, this.1⟩⟩
   omega
  ·have := most_le r vs L ⟨fun s hs => by
    rcases List.mem_cons.1 (h.1 s hs) with q | q
    ·subst q; exact absurd hs ht
    ·exact q, h.2⟩
   split <;> omega
theorem most_ex : ∀ (E : List Tie) (vs : List Int), (∀ t ∈ E, t.f0 ≠ t.f1) → ∃ L, L.Sublist E ∧ fits E vs L ∧ L.length = most E vs
 | [], vs, _ => ⟨[], List.Sublist.refl _, ⟨by simp, by simp [verts], by simp [verts]⟩, rfl⟩
 | t :: r, vs, hne => by
  unfold most
  have hr := fun s hs => hne s (List.mem_cons_of_mem _ hs)
  have lift : ∀ L, L.Sublist r → fits r vs L → L.Sublist (t :: r) ∧ fits (t :: r) vs L := fun L s f => ⟨s.cons _, fun x hx => List.mem_cons_of_mem _ (f.1 x hx), f.2⟩
  obtain ⟨L, s, f, e⟩ := most_ex r vs hr
  split
  ·exact ⟨L, (lift L s f).1, (lift L s f).2, e⟩
  ·rename_i hn
   obtain ⟨L2, s2, f2, e2⟩ := most_ex r (t.f1 :: t.f0 :: vs) hr
   by_cases c : most r vs ≤ 1 + most r (t.f1 :: t.f0 :: vs)
   ·refine ⟨t :: L2, s2.cons_cons _, ⟨fun x hx => ?_, ?_, ?_⟩, by simp; omega⟩
    ·rcases List.mem_cons.1 hx with rfl | hx
     ·simp
     ·exact List.mem_cons_of_mem _ (f2.1 x hx)
    ·rw [verts_cons, List.nodup_cons, List.nodup_cons]
     refine ⟨fun hm => ?_, fun hm => (f2.2.2 _ hm) (by simp), f2.2.1⟩
     rcases List.mem_cons.1 hm with q | q
     ·exact hne t (by simp) q
     ·exact (f2.2.2 _ q) (by simp)
    ·intro v hv
     rw [verts_cons] at hv
     rcases List.mem_cons.1 hv with rfl | hv
     ·exact fun o => hn (Or.inl o)
     ·rcases List.mem_cons.1 hv with rfl | hv
      ·exact fun o => hn (Or.inr o)
      ·exact fun o => f2.2.2 v hv (by simp [o])
   ·exact ⟨L, (lift L s f).1, (lift L s f).2, by omega⟩
theorem most_eq {E : List Tie} {vs : List Int} {k : Nat} (hne : ∀ t ∈ E, t.f0 ≠ t.f1) (h1 : ∃ L, fits E vs L ∧ L.length = k) (h2 : ∀ L, fits E vs L → L.length ≤ k) : k = most E vs := by
 obtain ⟨L, f, e⟩ := h1
 obtain ⟨L2, _, f2, e2⟩ := most_ex E vs hne
 have := most_le E vs L f
 have := h2 L2 f2
 omega
theorem most_len : ∀ (E : List Tie) (vs : List Int), most E vs ≤ E.length
 | [], _ => Nat.le_refl _
 | t :: r, vs => by
  unfold most
  have := most_len r vs
  have := most_len r (t.f1 :: t.f0 :: vs)
  simp only [List.length_cons]
  split <;> omega
end Go.Proofs.YtjkeagcenmmknaaDoor.G
namespace Go.Proofs.YtjkeagcenmmknaaDoor.P
open Go.RowKit Go.Proofs.YtjkeagcenmmknaaDoorW.PrintWords Go.Proofs.YtjkeagcenmmknaaDoor.G
def outs (s : Nat) : List Int := ((List.range 8).filter fun v => !s.testBit v).map fun (v : Nat) => (v : Int)
theorem mem_outs {s : Nat} {v : Int} : v ∈ outs s ↔ ∃ n : Nat, n < 8 ∧ s.testBit n = false ∧ v = (n : Int) := by
 unfold outs
 simp only [List.mem_map, List.mem_filter, List.mem_range, Bool.not_eq_true', and_assoc]
 constructor
 ·rintro ⟨a, h1, h2, rfl⟩; exact ⟨a, h1, h2, rfl⟩
 ·rintro ⟨a, h1, h2, rfl⟩; exact ⟨a, h1, h2, rfl⟩
theorem out_iff {s : Nat} {v : Int} (h0 : 0 ≤ v) (h1 : v < 8) : v ∈ outs s ↔ s.testBit v.toNat = false := by
 rw [mem_outs]
 constructor
 ·rintro ⟨n, a, b, rfl⟩; simpa using b
 ·intro h; exact ⟨v.toNat, by omega, h, by omega⟩
theorem low_facts : ∀ s : Nat, s < 256 → s ≠ 0 → Lib.ctz 64 s < 8 ∧ s.testBit (Lib.ctz 64 s) = true ∧ (∀ v, v < 8 → (v < Lib.ctz 64 s → s.testBit v = false) ∧ (s &&& (s - 1)).testBit v = (s.testBit v && v != Lib.ctz 64 s)) ∧ s &&& (s - 1) < s := by decide +kernel
theorem xor_lt : ∀ s : Nat, s < 256 → ∀ t : Nat, t < 256 → s &&& t = t → t ≠ 0 → s ^^^ t < s := by decide +kernel
theorem two_bit {t : Tie} (h : 0 ≤ t.f0 ∧ t.f0 < t.f1 ∧ t.f1 < 8) (v : Nat) : (szTwo t).testBit v = (decide (v = t.f0.toNat) || decide (v = t.f1.toNat)) := by
 unfold szTwo
 rw [Nat.testBit_or, Nat.testBit_two_pow, Nat.testBit_two_pow]
 congr 1 <;> exact decide_eq_decide.2 ⟨fun e => e.symm, fun e => e.symm⟩
theorem two_ne {t : Tie} (h : 0 ≤ t.f0 ∧ t.f0 < t.f1 ∧ t.f1 < 8) : szTwo t ≠ 0 := by
 intro e
 have := two_bit h t.f0.toNat
 rw [e] at this
 simp at this
theorem two_in {s : Nat} {t : Tie} (h : 0 ≤ t.f0 ∧ t.f0 < t.f1 ∧ t.f1 < 8) : s &&& szTwo t = szTwo t ↔ s.testBit t.f0.toNat = true ∧ s.testBit t.f1.toNat = true := by
 constructor
 ·intro e
  have a := congrArg (fun n => n.testBit t.f0.toNat) e
  have b := congrArg (fun n => n.testBit t.f1.toNat) e
  simp only [Nat.testBit_and, two_bit h] at a b
  simpa using And.intro a b
 ·rintro ⟨a, b⟩
  apply Nat.eq_of_testBit_eq
  intro i
  rw [Nat.testBit_and, two_bit h]
  by_cases c : i = t.f0.toNat
  ·subst c; simp [a]
  ·by_cases d : i = t.f1.toNat
   ·subst d; simp [b]
   ·simp [c, d]
theorem xor_bit {s t : Nat} (h : s &&& t = t) (v : Nat) : (s ^^^ t).testBit v = (s.testBit v && !t.testBit v) := by
 rw [Nat.testBit_xor]
 have := congrArg (fun n => n.testBit v) h
 simp only [Nat.testBit_and] at this
 cases a : s.testBit v <;> cases b : t.testBit v <;> simp_all
def pickMax (s : Nat) (f : Nat → Int) (m : Int) (t : Tie) : Int := if t.f0 = (Lib.ctz 64 s : Int) ∧ s &&& szTwo t = szTwo t then szMax m (wrap64 (f (s ^^^ szTwo t) + 1)) else m
theorem rd_set_eq {T : List Int} {s : Nat} (x : Int) (h : s < T.length) : rd (T.set s x) (s : Int) = x := by
 unfold rd; simp [List.getD_eq_getElem?_getD, h]
theorem rd_set_ne {T : List Int} {s j : Nat} (x : Int) (h : j ≠ s) : rd (T.set s x) (j : Int) = rd T (j : Int) := by
 unfold rd
 simp only [Int.toNat_natCast, List.getD_eq_getElem?_getD]
 rw [List.getElem?_set_ne (fun e => h e.symm)]
theorem fold_table (s : Nat) (T : List Int) (hs : s < T.length) (hs2 : s < 256) : ∀ (l : List Tie) (m : Int), szGood l → l.foldl (szStep s) (T.set s m) = T.set s (l.foldl (pickMax s fun j => rd T (j : Int)) m)
 | [], m, _ => rfl
 | t :: r, m, h => by
  have ht := h t (by simp)
  rw [List.foldl_cons, List.foldl_cons]
  have e : szStep s (T.set s m) t = T.set s (pickMax s (fun j => rd T (j : Int)) m t) := by
   unfold szStep pickMax
   split
   ·rename_i c
    have lt := xor_lt s hs2 (szTwo t) (szTwo_lt t ht) c.2 (two_ne ht)
    rw [rd_set_eq m hs, rd_set_ne m (by omega), List.set_set]
   ·rfl
  rw [e]
  exact fold_table s T hs hs2 r _ (fun x hx => h x (List.mem_cons_of_mem _ hx))
theorem szMax_le {a b : Int} : a ≤ szMax a b ∧ b ≤ szMax a b := by unfold szMax; split <;> omega
theorem szMax_or (a b : Int) : szMax a b = a ∨ szMax a b = b := by unfold szMax; split <;> simp
theorem fold_ge (s : Nat) (f : Nat → Int) : ∀ (l : List Tie) (m : Int), m ≤ l.foldl (pickMax s f) m ∧ ∀ t ∈ l, t.f0 = (Lib.ctz 64 s : Int) → s &&& szTwo t = szTwo t → wrap64 (f (s ^^^ szTwo t) + 1) ≤ l.foldl (pickMax s f) m
 | [], m => ⟨Int.le_refl _, fun t ht => absurd ht (by simp)⟩
 | t :: r, m => by
  rw [List.foldl_cons]
  obtain ⟨a, b⟩ := fold_ge s f r (pickMax s f m t)
  have h1 : m ≤ pickMax s f m t := by unfold pickMax; split; exact szMax_le.1; exact Int.le_refl _
  refine ⟨by omega, fun x hx c d => ?_⟩
  rcases List.mem_cons.1 hx with rfl | hx
  ·have : wrap64 (f (s ^^^ szTwo x) + 1) ≤ pickMax s f m x := by unfold pickMax; rw [if_pos ⟨c, d⟩]; exact szMax_le.2
   omega
  ·exact b x hx c d
theorem fold_is (s : Nat) (f : Nat → Int) : ∀ (l : List Tie) (m : Int), l.foldl (pickMax s f) m = m ∨ ∃ t ∈ l, t.f0 = (Lib.ctz 64 s : Int) ∧ s &&& szTwo t = szTwo t ∧ l.foldl (pickMax s f) m = wrap64 (f (s ^^^ szTwo t) + 1)
 | [], m => Or.inl rfl
 | t :: r, m => by
  rw [List.foldl_cons]
  rcases fold_is s f r (pickMax s f m t) with e | ⟨x, hx, c, d, e⟩
  ·rw [e]
   unfold pickMax
   split
   ·rename_i c
    rcases szMax_or m (wrap64 (f (s ^^^ szTwo t) + 1)) with q | q
    ·exact Or.inl q
    ·exact Or.inr ⟨t, by simp, c.1, c.2, q⟩
   ·exact Or.inl rfl
  ·exact Or.inr ⟨x, List.mem_cons_of_mem _ hx, c, d, e⟩
theorem set_step (l : List Tie) (hl : (l.length : Int) < big) (g : szGood l) (s : Nat) (h0 : s ≠ 0) (h1 : s < 256) (f : Nat → Int) (hf : ∀ j, j < s → f j = (most l (outs j) : Int)) :
  l.foldl (pickMax s f) (f (s &&& (s - 1))) = (most l (outs s) : Int) := by
 obtain ⟨lw8, lwin, lwf, lwlt⟩ := low_facts s h1 h0
 have hne : ∀ t ∈ l, t.f0 ≠ t.f1 := fun t ht => by have := g t ht; omega
 have val : ∀ t ∈ l, s &&& szTwo t = szTwo t → wrap64 (f (s ^^^ szTwo t) + 1) = ((most l (outs (s ^^^ szTwo t)) + 1 : Nat) : Int) := fun t ht c => by
  rw [hf _ (xor_lt s h1 _ (szTwo_lt t (g t ht)) c (two_ne (g t ht)))]
  have := most_len l (outs (s ^^^ szTwo t))
  rw [w64 (by omega) (by unfold big at hl; omega)]
  omega
 obtain ⟨ge1, ge2⟩ := fold_ge s f l (f (s &&& (s - 1)))
 -- a natural number it is
 obtain ⟨k, hk, kx⟩ : ∃ k : Nat, l.foldl (pickMax s f) (f (s &&& (s - 1))) = (k : Int) ∧ (k = most l (outs (s &&& (s - 1))) ∨ ∃ t ∈ l, t.f0 = (Lib.ctz 64 s : Int) ∧ s &&& szTwo t = szTwo t ∧ k = most l (outs (s ^^^ szTwo t)) + 1) := by
  rcases fold_is s f l (f (s &&& (s - 1))) with e | ⟨t, ht, c, d, e⟩
  ·exact ⟨_, e.trans (hf _ lwlt), Or.inl rfl⟩
  ·exact ⟨_, e.trans (val t ht d), Or.inr ⟨t, ht, c, d, rfl⟩⟩
 rw [hk]
 congr 1
 refine most_eq hne ?_ ?_
 ·rcases kx with e | ⟨t, ht, c, d, e⟩
  ·obtain ⟨L, _, fL, eL⟩ := most_ex l (outs (s &&& (s - 1))) hne
   refine ⟨L, ⟨fL.1, fL.2.1, fun v hv o => fL.2.2 v hv ?_⟩, by omega⟩
   obtain ⟨n, n8, nb, rfl⟩ := mem_outs.1 o
   exact mem_outs.2 ⟨n, n8, by rw [(lwf n n8).2, nb]; rfl, rfl⟩
  ·obtain ⟨L, _, fL, eL⟩ := most_ex l (outs (s ^^^ szTwo t)) hne
   have gt := g t ht
   obtain ⟨b0, b1⟩ := (two_in gt).1 d
   have tin : ∀ v : Int, (v = t.f0 ∨ v = t.f1) → v ∈ outs (s ^^^ szTwo t) := fun v o => by
    rw [out_iff (by rcases o with e | e <;> omega) (by rcases o with e | e <;> omega), xor_bit d, two_bit gt]
    rcases o with rfl | rfl <;> simp
   refine ⟨t :: L, ⟨fun x hx => ?_, ?_, fun v hv o => ?_⟩, by simp; omega⟩
   ·rcases List.mem_cons.1 hx with rfl | hx
    ·exact ht
    ·exact fL.1 x hx
   ·rw [verts_cons, List.nodup_cons, List.nodup_cons]
    refine ⟨fun hm => ?_, fun hm => fL.2.2 _ hm (tin _ (Or.inr rfl)), fL.2.1⟩
    rcases List.mem_cons.1 hm with q | q
    ·omega
    ·exact fL.2.2 _ q (tin _ (Or.inl rfl))
   ·rw [verts_cons] at hv
    rcases List.mem_cons.1 hv with rfl | hv
    ·rw [out_iff (by omega) (by omega)] at o; rw [o] at b0; cases b0
    ·rcases List.mem_cons.1 hv with rfl | hv
     ·rw [out_iff (by omega) (by omega)] at o; rw [o] at b1; cases b1
     ·refine fL.2.2 v hv ?_
      obtain ⟨n, n8, nb, rfl⟩ := mem_outs.1 o
      exact mem_outs.2 ⟨n, n8, by rw [xor_bit d, nb]; rfl, rfl⟩
 ·intro L fL
  have inn : ∀ t ∈ L, s.testBit t.f0.toNat = true ∧ s.testBit t.f1.toNat = true := fun t ht => by
   have gt := g t (fL.1 t ht)
   have a := fL.2.2 t.f0 (mem_verts.2 ⟨t, ht, Or.inl rfl⟩)
   have b := fL.2.2 t.f1 (mem_verts.2 ⟨t, ht, Or.inr rfl⟩)
   rw [out_iff (by omega) (by omega)] at a b
   exact ⟨by simpa using a, by simpa using b⟩
  by_cases c : ((Lib.ctz 64 s : Nat) : Int) ∈ verts L
  ·obtain ⟨t, ht, o⟩ := mem_verts.1 c
   have gt := g t (fL.1 t ht)
   obtain ⟨b0, b1⟩ := inn t ht
   have e0 : t.f0 = (Lib.ctz 64 s : Int) := by
    rcases o with o | o
    ·exact o.symm
    ·have := (lwf t.f0.toNat (by omega)).1 (by omega)
     rw [this] at b0; cases b0
   have d := (two_in gt).2 ⟨b0, b1⟩
   have := ge2 t (fL.1 t ht) e0 d
   rw [val t (fL.1 t ht) d, hk] at this
   obtain ⟨_, _, _, el, es, nd, nv⟩ := fits_erase fL ht
   have le := most_le l (outs (s ^^^ szTwo t)) (L.erase t) ⟨fun x hx => fL.1 x (es x hx).1, nd, fun v hv o2 => by
    obtain ⟨n, n8, nb, rfl⟩ := mem_outs.1 o2
    rw [xor_bit d, two_bit gt] at nb
    obtain ⟨q1, q2, q3⟩ := nv _ hv
    have : s.testBit n = true := by
     have := fun z => q1 (mem_outs.2 ⟨n, n8, z, rfl⟩)
     simpa using this
    rw [this] at nb
    simp at nb
    have := gt
    by_cases c1 : n = t.f0.toNat
    ·exact q2 (by omega)
    ·exact q3 (by have := nb c1; omega)⟩
   omega
  ·have := most_le l (outs (s &&& (s - 1))) L ⟨fL.1, fL.2.1, fun v hv o => by
    obtain ⟨n, n8, nb, rfl⟩ := mem_outs.1 o
    rw [(lwf n n8).2] at nb
    have : s.testBit n = true := by
     have := fun z => fL.2.2 _ hv (mem_outs.2 ⟨n, n8, z, rfl⟩)
     simpa using this
    rw [this] at nb
    simp at nb
    subst nb
    exact c hv⟩
   rw [hk, hf _ lwlt] at ge1
   omega
theorem szT_is (l : List Tie) (hl : (l.length : Int) < big) (g : szGood l) : ∀ n, n < 256 → ∀ j, j ≤ n → rd (szT l n) (j : Int) = (most l (outs j) : Int)
 | 0, _, j, hj => by
  obtain rfl : j = 0 := by omega
  have z : rd (szT l 0) ((0 : Nat) : Int) = 0 := by
   show rd (List.replicate 256 0) 0 = 0
   unfold rd
   rw [List.getD_eq_getElem?_getD, List.getElem?_replicate]
   split <;> rfl
  rw [z]
  have : most l (outs 0) = 0 := by
   have hne : ∀ t ∈ l, t.f0 ≠ t.f1 := fun t ht => by have := g t ht; omega
   refine (most_eq hne ⟨[], ⟨by simp, by simp [verts], by simp [verts]⟩, rfl⟩ (fun L fL => ?_)).symm
   cases L with
   | nil => simp
   | cons t r =>
    have gt := g t (fL.1 t (by simp))
    exact absurd ((out_iff (s := 0) (v := t.f0) (by omega) (by omega)).2 (by simp)) (fL.2.2 _ (by rw [verts_cons]; simp))
  omega
 | n + 1, hn, j, hj => by
  have ih := szT_is l hl g n (by omega)
  show rd (szRound l (n + 1) (szT l n)) (j : Int) = _
  unfold szRound
  obtain ⟨_, _, _, lwlt⟩ := low_facts (n + 1) (by omega) (by omega)
  rw [fold_table (n + 1) (szT l n) (by rw [szT_len]; omega) (by omega) l _ g]
  by_cases e : j = n + 1
  ·subst e
   rw [rd_set_eq _ (by rw [szT_len]; omega)]
   exact set_step l hl g (n + 1) (by omega) (by omega) (fun j => rd (szT l n) (j : Int)) (fun j hj => ih j (by omega))
  ·rw [rd_set_ne _ e]
   exact ih j (by omega)
theorem szOf_eq (l : List Tie) (hl : (l.length : Int) < big) (g : szGood l) : szOf l = some (most l [] : Int) := by
 unfold szOf
 rw [if_pos g]
 have := szT_is l hl g 255 (by omega) 255 (by omega)
 rw [show ((255 : Nat) : Int) = 255 from rfl] at this
 rw [this]
 rw [show outs 255 = [] from by kernel_rfl]
end Go.Proofs.YtjkeagcenmmknaaDoor.P
namespace Go.Proofs.YtjkeagcenmmknaaDoor.P
open Go.RowKit Go.Proofs.YtjkeagcenmmknaaDoorW.PrintWords Go.Proofs.YtjkeagcenmmknaaDoor.G
def sizeOf (n : Int) (E : List Tie) : Int := if ok n E then (most E [] : Int) else -1
theorem ok_good {n : Int} {E : List Tie} (h : ok n E) : szGood E := fun t ht => by have := h.2.2.1 t ht; have := h.2.1; unfold inr at *; omega
theorem size_eq {n : Int} {E : List S51} (h : ok n E) : impl_size.f E = some (most E [] : Int) := szOf_eq E (by have := ok_len h; unfold big; omega) (ok_good h)
theorem sizeImpl (n : Int) (E : List S51) (hb : (E.length : Int) < big) : Ev (fun k => impl_PairSize.f k n E) (sizeOf n E) := by
 unfold impl_PairSize.f sizeOf
 refine Ev.bind (implOk n E hb) ?_
 by_cases h : ok n E
 ·simp only [decide_eq_true h, if_true, if_pos h, size_eq h, Option.bind_some]
  exact Ev.val rfl
 ·simp only [decide_eq_false h, Bool.false_eq_true, if_false, if_neg h]
  exact Ev.val rfl
theorem l24_ev (n : Int) (E : List S51) (hok : ok n E) : ∀ (suf pre : List S51) (vs : List Int), E = pre ++ suf → Ev (fun k => spec_l24Most.f k n E (pre.length : Int) (flags n vs)) (most suf vs : Int) := by
 intro suf
 induction suf with
 | nil =>
  intro pre vs he
  have c : (pre.length : Int) ≥ (E.length : Int) := by rw [he]; simp
  refine Ev.step (fun k => by simp only [spec_l24Most.f, if_pos c] <;> exact rfl) ?_
  exact Ev.val rfl
 | cons t suf ih =>
  intro pre vs he
  have h64 := ok_len hok
  have ht := hok.2.2.1 t (by rw [he]; simp)
  unfold inr at ht
  have n8 := hok.2.1
  have el : E.length = pre.length + suf.length + 1 := by rw [he]; simp; omega
  have c : ¬ (pre.length : Int) ≥ (E.length : Int) := by omega
  have c1 : (pre.length : Int) < (E.length : Int) := by omega
  have e1 : E = (pre ++ [t]) ++ suf := by rw [he]; simp
  have w1 : wrap64 ((pre.length : Int) + 1) = ((pre ++ [t]).length : Int) := w_succ (by unfold big; omega)
  have rt : rd_T51 E (pre.length : Int) = t := by rw [he]; exact rdI_mid pre t suf
  have fl : ((flags n vs).length : Int) = n := flags_len n vs (by omega)
  have f0 : t.f0 < ((flags n vs).length : Int) := by omega
  have f1 : t.f1 < ((flags n vs).length : Int) := by omega
  have r0 : rdOf false (flags n vs) t.f0 = decide (t.f0 ∈ vs) := flags_rd (by omega) (by omega)
  have r1 : rdOf false (flags n vs) t.f1 = decide (t.f1 ∈ vs) := flags_rd (by omega) (by omega)
  have p0 : 0 ≤ t.f0 := ht.1
  have p1 : 0 ≤ t.f1 := by omega
  refine Ev.step (fun k => by simp only [spec_l24Most.f, if_neg c, w1, nn, if_true, if_pos c1, rt, if_pos p0, if_pos p1, if_pos f0, if_pos f1, r0, r1] <;> exact rfl) ?_
  refine Ev.bind (ih (pre ++ [t]) vs e1) ?_
  have stop : t.f0 ∈ vs ∨ t.f1 ∈ vs → Ev (fun k => spec_l24Most.j0 k (pre.length : Int) (flags n vs) (most suf vs : Int) true n E t.f0 t.f1) (most (t :: suf) vs : Int) := fun o => by
   refine Ev.step (fun k => by simp only [spec_l24Most.j0, if_true] <;> exact rfl) (Ev.val ?_)
   rw [show most (t :: suf) vs = (if t.f0 ∈ vs ∨ t.f1 ∈ vs then most suf vs else max (most suf vs) (1 + most suf (t.f1 :: t.f0 :: vs))) from rfl, if_pos o]
  by_cases a : t.f0 ∈ vs
  ·simp only [decide_eq_true a, if_true]
   exact stop (Or.inl a)
  simp only [decide_eq_false a, Bool.false_eq_true, if_false]
  by_cases b : t.f1 ∈ vs
  ·simp only [decide_eq_true b]
   exact stop (Or.inr b)
  simp only [decide_eq_false b]
  have z : ([] : List Bool).length + (flags n vs).length < 140737488355328 := by simp only [List.length_nil]; omega
  have fl2 : (([] : List Bool) ++ flags n vs).length = (flags n vs).length := by simp
  have g0 : t.f0 < ((([] : List Bool) ++ flags n vs).length : Int) := by rw [fl2]; omega
  have g1 : t.f1 < ((([] : List Bool) ++ flags n vs).length : Int) := by rw [fl2]; omega
  have mk : ((([] : List Bool) ++ flags n vs).set t.f0.toNat true).set t.f1.toNat true = flags n (t.f1 :: t.f0 :: vs) := by
   rw [List.nil_append, flags_set (by omega) (by omega), flags_set (by omega) (by omega)]
  have ml := most_len suf (t.f1 :: t.f0 :: vs)
  have w2 : wrap64 (1 + (most suf (t.f1 :: t.f0 :: vs) : Int)) = 1 + (most suf (t.f1 :: t.f0 :: vs) : Int) := w64 (by omega) (by omega)
  refine Ev.step (fun k => by simp only [spec_l24Most.j0, Bool.false_eq_true, if_false, Option.bind_some, if_pos z, if_pos p0, if_pos p1, if_pos g0, if_pos g1, mk, w1] <;> exact rfl) ?_
  refine Ev.bind (ih (pre ++ [t]) (t.f1 :: t.f0 :: vs) e1) ?_
  simp only [w2]
  have un : most (t :: suf) vs = max (most suf vs) (1 + most suf (t.f1 :: t.f0 :: vs)) := by
   show (if t.f0 ∈ vs ∨ t.f1 ∈ vs then most suf vs else max (most suf vs) (1 + most suf (t.f1 :: t.f0 :: vs))) = _
   rw [if_neg (by intro o; rcases o with o | o; exact a o; exact b o)]
  rw [un]
  generalize most suf (t.f1 :: t.f0 :: vs) = a2
  generalize most suf vs = b2
  by_cases d : 1 + (a2 : Int) > (b2 : Int)
  ·simp only [if_pos d]
   have e : 1 + (a2 : Int) = ((max b2 (1 + a2) : Nat) : Int) := by omega
   exact Ev.val (by rw [e])
  ·simp only [if_neg d]
   have e : (b2 : Int) = ((max b2 (1 + a2) : Nat) : Int) := by omega
   exact Ev.val (by rw [← e])
theorem sizeSpec (n : Int) (E : List S51) (hb : (E.length : Int) < big) : Ev (fun k => spec_PairSize.f k n E) (sizeOf n E) := by
 unfold spec_PairSize.f sizeOf
 refine Ev.bind (specOk n E hb) ?_
 by_cases h : ok n E
 ·have n0 := h.1
  have n8 := h.2.1
  have z : n.toNat ≤ 281474976710656 := by omega
  simp only [decide_eq_true h, if_true, if_pos h, if_pos n0, if_pos z, flags_none]
  exact Ev.bind (l24_ev n E h E [] [] rfl) (Ev.val rfl)
 ·simp only [decide_eq_false h, Bool.false_eq_true, if_false, if_neg h]
  exact Ev.val rfl
end Go.Proofs.YtjkeagcenmmknaaDoor.P
namespace Go.Proofs.YtjkeagcenmmknaaDoor.P
open Go.RowKit Go.Proofs.YtjkeagcenmmknaaDoorW.PrintWords Go.Proofs.YtjkeagcenmmknaaDoor.G
theorem knot_eq (n a : Int) (E : List S51) : impl_Net_knot.f n E a = some (decide (0 ≤ a ∧ a < n)) := by
 unfold impl_Net_knot.f
 by_cases h : 0 ≤ a <;> simp [h]
end Go.Proofs.YtjkeagcenmmknaaDoor.P
namespace Go.Proofs.YtjkeagcenmmknaaDoor.G
open Go.RowKit Go.Proofs.YtjkeagcenmmknaaDoorW.PrintWords
theorem verts_len (L : List Tie) : (verts L).length = 2 * L.length := by
 induction L with
 | nil => rfl
 | cons t r ih => rw [verts_cons]; simp only [List.length_cons]; omega
theorem ok_ne {n : Int} {E : List Tie} (h : ok n E) : ∀ t ∈ E, t.f0 ≠ t.f1 := fun t ht => by have := h.2.2.1 t ht; unfold inr at this; omega
theorem verts_in {n : Int} {E : List Tie} (h : ok n E) {v : Int} (hv : v ∈ verts E) : 0 ≤ v ∧ v < n := by
 obtain ⟨t, ht, o⟩ := mem_verts.1 hv
 have := h.2.2.1 t ht
 unfold inr at this
 omega
theorem verts_mono {E L : List Tie} (h : ∀ t ∈ L, t ∈ E) {v : Int} (hv : v ∈ verts L) : v ∈ verts E := by
 obtain ⟨t, ht, o⟩ := mem_verts.1 hv
 exact mem_verts.2 ⟨t, h t ht, o⟩
end Go.Proofs.YtjkeagcenmmknaaDoor.G
namespace Go.Proofs.YtjkeagcenmmknaaDoor.G
open Go.RowKit Go.Proofs.YtjkeagcenmmknaaDoorW.PrintWords
def wo (E : List Tie) (v : Int) : List Tie := E.filter fun t => !decide (t.f0 = v ∨ t.f1 = v)
theorem mem_wo {E : List Tie} {v : Int} {t : Tie} : t ∈ wo E v ↔ t ∈ E ∧ t.f0 ≠ v ∧ t.f1 ≠ v := by
 unfold wo
 rw [List.mem_filter]
 simp
theorem ok_wo {n : Int} {E : List Tie} (h : ok n E) (v : Int) : ok n (wo E v) := ok_filter _ h
theorem most_wo {E : List Tie} (hne : ∀ t ∈ E, t.f0 ≠ t.f1) (v : Int) (vs : List Int) : most (wo E v) vs = most E (v :: vs) := by
 obtain ⟨L, _, f, e⟩ := most_ex (wo E v) vs (fun t ht => hne t (mem_wo.1 ht).1)
 refine most_eq hne ⟨L, ⟨fun t ht => (mem_wo.1 (f.1 t ht)).1, f.2.1, fun x hx o => ?_⟩, e⟩ (fun M fM => ?_)
 ·rcases List.mem_cons.1 o with rfl | o
  ·obtain ⟨t, ht, q⟩ := mem_verts.1 hx
   have := mem_wo.1 (f.1 t ht)
   rcases q with q | q
   ·exact this.2.1 q.symm
   ·exact this.2.2 q.symm
  ·exact f.2.2 x hx o
 ·refine most_le _ _ _ ⟨fun t ht => mem_wo.2 ⟨fM.1 t ht, fun q => ?_, fun q => ?_⟩, fM.2.1, fun x hx o => fM.2.2 x hx (by simp [o])⟩
  ·exact fM.2.2 _ (mem_verts.2 ⟨t, ht, Or.inl rfl⟩) (by simp [q])
  ·exact fM.2.2 _ (mem_verts.2 ⟨t, ht, Or.inr rfl⟩) (by simp [q])
theorem most_perm {E : List Tie} (hne : ∀ t ∈ E, t.f0 ≠ t.f1) {vs ws : List Int} (h : ∀ v, v ∈ vs ↔ v ∈ ws) : most E vs = most E ws := by
 obtain ⟨L, _, f, e⟩ := most_ex E vs hne
 exact most_eq hne ⟨L, ⟨f.1, f.2.1, fun v hv o => f.2.2 v hv ((h v).2 o)⟩, e⟩ (fun M fM => most_le _ _ _ ⟨fM.1, fM.2.1, fun v hv o => fM.2.2 v hv ((h v).1 o)⟩)
theorem most_take {E : List Tie} (hne : ∀ t ∈ E, t.f0 ≠ t.f1) (v : Int) (vs : List Int) : most E (v :: vs) ≤ most E vs ∧ most E vs ≤ most E (v :: vs) + 1 := by
 constructor
 ·obtain ⟨L, _, f, e⟩ := most_ex E (v :: vs) hne
  have := most_le E vs L ⟨f.1, f.2.1, fun x hx o => f.2.2 x hx (by simp [o])⟩
  omega
 ·obtain ⟨L, _, f, e⟩ := most_ex E vs hne
  by_cases c : v ∈ verts L
  ·obtain ⟨t, ht, o⟩ := mem_verts.1 c
   obtain ⟨_, _, _, el, es, nd, nv⟩ := fits_erase f ht
   have := most_le E (v :: vs) (L.erase t) ⟨fun x hx => f.1 x (es x hx).1, nd, fun x hx q => by
    rcases List.mem_cons.1 q with rfl | q
    ·rcases o with o | o
     ·exact (nv x hx).2.1 o
     ·exact (nv x hx).2.2 o
    ·exact (nv x hx).1 q⟩
   omega
  ·have := most_le E (v :: vs) L ⟨f.1, f.2.1, fun x hx q => by
    rcases List.mem_cons.1 q with rfl | q
    ·exact c hx
    ·exact f.2.2 x hx q⟩
   omega
end Go.Proofs.YtjkeagcenmmknaaDoor.G
namespace Go.Proofs.YtjkeagcenmmknaaDoor.P
open Go.RowKit Go.Proofs.YtjkeagcenmmknaaDoorW.PrintWords Go.Proofs.YtjkeagcenmmknaaDoor.G
theorem without_l0 (n m a : Int) : ∀ (suf p q : List S51), ((p ++ suf).length : Int) ≤ 1048576 → q.length ≤ p.length →
  Ev (fun k => impl_Net_without.l0 k a (p ++ suf) ((p ++ suf).length : Int) (p.length : Int) m q) (m, q ++ wo suf a) := by
 intro suf
 induction suf with
 | nil =>
  intro p q hb hq
  refine Ev.step (fun k => by simp only [impl_Net_without.l0, nlt_end, if_false] <;> exact rfl) ?_
  exact Ev.val (by simp [wo])
 | cons t suf ih =>
  intro p q hb hq
  have hb' : ((p ++ t :: suf).length : Int) < big := by unfold big; omega
  have hp : (p.length : Int) < big := len_mid hb'
  have hq8 : q.length < 8796093022208 := by rw [List.length_append] at hb; omega
  by_cases c : t.f0 = a
  ·refine Ev.step (fun k => by simp only [impl_Net_without.l0, lt_mid, nn, if_true, rdC_mid, w_succ (t := t) hp, if_pos c] <;> exact rfl) ?_
   rw [app_one p t suf]
   refine Ev.eq (ih (p ++ [t]) q (by rw [← app_one]; exact hb) (by simp; omega)) ?_
   simp [wo, c]
  ·by_cases d : t.f1 = a
   ·refine Ev.step (fun k => by simp only [impl_Net_without.l0, lt_mid, nn, if_true, rdC_mid, w_succ (t := t) hp, if_neg c, if_pos d] <;> exact rfl) ?_
    rw [app_one p t suf]
    refine Ev.eq (ih (p ++ [t]) q (by rw [← app_one]; exact hb) (by simp; omega)) ?_
    simp [wo, d]
   ·refine Ev.step (fun k => by simp only [impl_Net_without.l0, lt_mid, nn, if_true, rdC_mid, w_succ (t := t) hp, if_neg c, if_neg d, if_pos hq8] <;> exact rfl) ?_
    rw [app_one p t suf]
    refine Ev.eq (ih (p ++ [t]) (q ++ [t]) (by rw [← app_one]; exact hb) (by simp; omega)) ?_
    simp [wo, c, d]
theorem without_ev (n a : Int) (E : List S51) (hE : (E.length : Int) ≤ 1048576) : Ev (fun k => impl_Net_without.f k n E a) (n, wo E a) := by
 unfold impl_Net_without.f
 exact without_l0 n n a E [] [] hE (Nat.le_refl _)
theorem netWithout_ev (n a : Int) (E : List S51) (h : ok n E) (h0 : 0 ≤ a) (h1 : a < n) : Ev (fun k => impl_NetWithout.f k n E a) (n, wo E a) := by
 have hl := ok_len h
 unfold impl_NetWithout.f
 refine Ev.bind (implOk n E (by unfold big; omega)) ?_
 simp only [decide_eq_true h, if_true, knot_eq, Option.bind_some, decide_eq_true (show 0 ≤ a ∧ a < n from ⟨h0, h1⟩)]
 exact Ev.bind (without_ev n a E (by omega)) (Ev.val rfl)
end Go.Proofs.YtjkeagcenmmknaaDoor.P
namespace Go.Proofs.YtjkeagcenmmknaaDoor.G
open Go.RowKit Go.Proofs.YtjkeagcenmmknaaDoorW.PrintWords
theorem rd_set {f : List Int} {u v x : Int} (hu : 0 ≤ u) (hu2 : u < (f.length : Int)) (hv : 0 ≤ v) : rd (f.set u.toNat x) v = if u = v then x else rd f v := by
  unfold rd
  rw [List.getD_eq_getElem?_getD, List.getD_eq_getElem?_getD, List.getElem?_set]
  by_cases c : u = v
  · subst c
    rw [if_pos rfl, if_pos (by omega), if_pos rfl]; rfl
  · rw [if_neg (by omega), if_neg c]
def tot (f : List Int) : Nat := (f.map Int.toNat).sum
theorem tot_set : ∀ {f : List Int} {i : Nat} {x : Int}, i < f.length → 0 ≤ x → 0 ≤ f.getD i 0 → (tot (f.set i x) : Int) = tot f - f.getD i 0 + x
  | [], i, _, h, _, _ => absurd h (Nat.not_lt_zero _)
  | b :: f, 0, x, h, hx, hb => by
    have hb' : 0 ≤ b := hb
    simp [tot]
    omega
  | b :: f, i + 1, x, h, hx, hb => by
    have ih := tot_set (f := f) (i := i) (x := x) (by simpa using h) hx (by simpa using hb)
    rw [List.set_cons_succ]
    simp [tot] at ih ⊢
    omega
structure Lab (n : Int) (E : List Tie) (f : List Int) : Prop where
  len : (f.length : Int) = n
  low : ∀ v, 0 ≤ v → v < n → 0 ≤ rd f v ∧ rd f v ≤ v
  conn : ∀ v, 0 ≤ v → v < n → Conn E v (rd f v)
structure Parts (n : Int) (E : List Tie) (f : List Int) : Prop where
  len : (f.length : Int) = n
  low : ∀ v, 0 ≤ v → v < n → 0 ≤ rd f v ∧ rd f v ≤ v
  conn : ∀ v, 0 ≤ v → v < n → Conn E v (rd f v)
  same : ∀ u v, 0 ≤ u → u < n → 0 ≤ v → v < n → Conn E u v → rd f u = rd f v
theorem Parts.iff {n : Int} {E : List Tie} {f : List Int} (h : Parts n E f) {u v : Int} (hu : 0 ≤ u ∧ u < n) (hv : 0 ≤ v ∧ v < n) : rd f u = rd f v ↔ Conn E u v :=
  ⟨fun e => (h.conn u hu.1 hu.2).trans (e ▸ (h.conn v hv.1 hv.2).symm), h.same u v hu.1 hu.2 hv.1 hv.2⟩
theorem Parts.least {n : Int} {E : List Tie} {f : List Int} (h : Parts n E f) {u v : Int} (hu : 0 ≤ u ∧ u < n) (hv : 0 ≤ v ∧ v < n) (hc : Conn E u v) : rd f u ≤ v := by
  rw [h.same u v hu.1 hu.2 hv.1 hv.2 hc]
  exact (h.low v hv.1 hv.2).2
theorem Parts.unique {n : Int} {E : List Tie} {f g : List Int} (h : Parts n E f) (k : Parts n E g) : f = g := by
  apply List.ext_getElem?
  intro i
  have hf := h.len
  have hg := k.len
  by_cases hi : i < f.length
  · have e : rd f i = rd g i := by
      have h0 : (0 : Int) ≤ (i : Int) := by omega
      have h1 : (i : Int) < n := by omega
      have a := h.low i h0 h1
      have b := k.low i h0 h1
      have c := h.least ⟨h0, h1⟩ ⟨b.1, by omega⟩ (k.conn i h0 h1)
      have d := k.least ⟨h0, h1⟩ ⟨a.1, by omega⟩ (h.conn i h0 h1)
      omega
    unfold rd at e
    rw [List.getD_eq_getElem?_getD, List.getD_eq_getElem?_getD, Int.toNat_natCast, List.getElem?_eq_getElem hi, List.getElem?_eq_getElem (by omega)] at e
    rw [List.getElem?_eq_getElem hi, List.getElem?_eq_getElem (by omega)]
    simpa using e
  · rw [List.getElem?_eq_none (by omega), List.getElem?_eq_none (by omega)]
theorem Lab.parts {n : Int} {E : List Tie} {f : List Int} (h : Lab n E f) (hE : ∀ t ∈ E, inr n t) (he : ∀ t ∈ E, rd f t.f0 = rd f t.f1) : Parts n E f := by
  refine ⟨h.len, h.low, h.conn, fun u v hu hu1 hv hv1 hc => ?_⟩
  refine hc.closed (fun x => rd f u = rd f x) rfl (fun x y hx ht => ?_)
  have hr := hE _ ht
  have e := he _ ht
  rw [hx]
  unfold tieOf at e
  by_cases c : x < y
  · rw [if_pos c] at e; exact e
  · rw [if_neg c] at e; exact e.symm
end Go.Proofs.YtjkeagcenmmknaaDoor.G
namespace Go.Proofs.YtjkeagcenmmknaaDoor.P
open Go.RowKit Go.Proofs.YtjkeagcenmmknaaDoorW.PrintWords Go.Proofs.YtjkeagcenmmknaaDoor.G
theorem mn_eq (a b : Int) : mn a b = if b < a then b else a := rfl
theorem parts_l2 (n : Int) (E : List S51) (hE : ok n E) : ∀ (suf p : List S51) (f : List Int) (b : Bool), p ++ suf = E → Lab n E f →
    ∃ f' b', Lab n E f' ∧ tot f' ≤ tot f ∧ (b' = false → b = false ∧ f' = f ∧ ∀ t ∈ suf, rd f t.f0 = rd f t.f1) ∧ (b' = true → b = true ∨ tot f' < tot f) ∧
      ∀ r, Ev (fun k => impl_Net_parts.l1 k f' b' n E) r → Ev (fun k => impl_Net_parts.l2 k f b (p ++ suf) ((p ++ suf).length : Int) (p.length : Int) n E) r := by
  intro suf
  have hEb : (E.length : Int) < big := by have := ok_len hE; unfold big; omega
  induction suf with
  | nil =>
    intro p f b he hL
    refine ⟨f, b, hL, Nat.le_refl _, fun h => ⟨h, rfl, by simp⟩, fun h => .inl h, fun r hr => ?_⟩
    refine Ev.step (fun k => by simp only [impl_Net_parts.l2, nlt_end, if_false] <;> exact rfl) hr
  | cons t suf ih =>
    intro p f b he hL
    have hp : (p.length : Int) < big := len_mid (by rw [he]; exact hEb)
    have ht : t ∈ E := by rw [← he]; simp
    have hr := hE.2.2.1 t ht
    unfold inr at hr
    have b1 : 0 ≤ t.f0 := hr.1
    have b2 : t.f0 < (f.length : Int) := by rw [hL.len]; omega
    have b3 : 0 ≤ t.f1 := by omega
    have b4 : t.f1 < (f.length : Int) := by rw [hL.len]; omega
    by_cases c : rd f t.f0 = rd f t.f1
    · obtain ⟨f', b', h1, h2, h3, h4, h5⟩ := ih (p ++ [t]) f b (by rw [← he]; simp) hL
      refine ⟨f', b', h1, h2, fun e => ?_, h4, fun r hr => ?_⟩
      · obtain ⟨x, y, z⟩ := h3 e
        refine ⟨x, y, fun s hs => ?_⟩
        rcases List.mem_cons.1 hs with rfl | hs
        · exact c
        · exact z s hs
      · refine Ev.step (fun k => by simp only [impl_Net_parts.l2, lt_mid, nn, if_true, rdC_mid, w_succ (t := t) hp, b1, b2, b3, b4, if_pos c] <;> exact rfl) ?_
        rw [app_one p t suf]
        exact h5 r hr
    · have lo0 := hL.low t.f0 b1 (by omega)
      have lo1 := hL.low t.f1 b3 (by omega)
      have hm : 0 ≤ mn (rd f t.f0) (rd f t.f1) ∧ mn (rd f t.f0) (rd f t.f1) ≤ rd f t.f0 ∧ mn (rd f t.f0) (rd f t.f1) ≤ rd f t.f1 ∧ (mn (rd f t.f0) (rd f t.f1) = rd f t.f0 ∨ mn (rd f t.f0) (rd f t.f1) = rd f t.f1) := by
        rw [mn_eq]; split <;> omega
      generalize hg : mn (rd f t.f0) (rd f t.f1) = m at hm
      have hs : ∀ v, 0 ≤ v → rd ((f.set t.f0.toNat m).set t.f1.toNat m) v = if t.f1 = v then m else if t.f0 = v then m else rd f v := fun v hv => by
        rw [rd_set b3 (by rw [List.length_set]; exact b4) hv, rd_set b1 b2 hv]
      have hconn01 : Conn E t.f0 t.f1 := Conn.tie ht hr.2.1
      have hc0 := hL.conn t.f0 b1 (by omega)
      have hc1 := hL.conn t.f1 b3 (by omega)
      have hcm : Conn E t.f0 m ∧ Conn E t.f1 m := by
        rcases hm.2.2.2 with e | e
        · rw [e]; exact ⟨hc0, hconn01.symm.trans hc0⟩
        · rw [e]; exact ⟨hconn01.trans hc1, hc1⟩
      have hL' : Lab n E ((f.set t.f0.toNat m).set t.f1.toNat m) := by
        refine ⟨by rw [List.length_set, List.length_set]; exact hL.len, fun v h0 h1 => ?_, fun v h0 h1 => ?_⟩
        · rw [hs v h0]
          have := hL.low v h0 h1
          split
          · subst_vars; omega
          · split
            · subst_vars; omega
            · exact this
        · rw [hs v h0]
          split
          · subst_vars; exact hcm.2
          · split
            · subst_vars; exact hcm.1
            · exact hL.conn v h0 h1
      have t0 : (tot (f.set t.f0.toNat m) : Int) = tot f - rd f t.f0 + m := tot_set (by omega) hm.1 lo0.1
      have e1 : (f.set t.f0.toNat m).getD t.f1.toNat 0 = rd f t.f1 := by
        have := rd_set (f := f) (u := t.f0) (v := t.f1) (x := m) b1 b2 b3
        rw [if_neg (by omega)] at this
        exact this
      have t1 : (tot ((f.set t.f0.toNat m).set t.f1.toNat m) : Int) = tot (f.set t.f0.toNat m) - rd f t.f1 + m := by
        have := tot_set (f := f.set t.f0.toNat m) (i := t.f1.toNat) (x := m) (by rw [List.length_set]; omega) hm.1 (by rw [e1]; exact lo1.1)
        rw [e1] at this
        exact this
      have hlt : tot ((f.set t.f0.toNat m).set t.f1.toNat m) < tot f := by omega
      obtain ⟨f', b', h1, h2, h3, h4, h5⟩ := ih (p ++ [t]) ((f.set t.f0.toNat m).set t.f1.toNat m) true (by rw [← he]; simp) hL'
      refine ⟨f', b', h1, by omega, fun e => ?_, fun _ => .inr (by omega), fun r hr => ?_⟩
      · have := (h3 e).1
        simp at this
      · refine Ev.step (fun k => by simp only [impl_Net_parts.l2, lt_mid, nn, if_true, rdC_mid, w_succ (t := t) hp, b1, b2, b3, b4, if_neg c, hg] <;> exact rfl) ?_
        rw [app_one p t suf]
        exact h5 r hr
theorem parts_l1 (n : Int) (E : List S51) (hE : ok n E) : ∀ (m : Nat) (f : List Int), tot f ≤ m → Lab n E f → ∃ f', Ev (fun k => impl_Net_parts.l1 k f true n E) f' ∧ Parts n E f' := by
  intro m
  induction m with
  | zero =>
    intro f hm hL
    obtain ⟨f', b', h1, h2, h3, h4, h5⟩ := parts_l2 n E hE E [] f false rfl hL
    cases b' with
    | true => rcases h4 rfl with h | h
              · simp at h
              · omega
    | false =>
      obtain ⟨_, rfl, h⟩ := h3 rfl
      refine ⟨f', ?_, h1.parts hE.2.2.1 h⟩
      refine Ev.step (fun k => by simp only [impl_Net_parts.l1, if_true] <;> exact rfl) ?_
      refine h5 f' ?_
      refine Ev.step (fun k => by simp only [impl_Net_parts.l1, Bool.false_eq_true, if_false] <;> exact rfl) ?_
      exact Ev.val rfl
  | succ m ih =>
    intro f hm hL
    obtain ⟨f', b', h1, h2, h3, h4, h5⟩ := parts_l2 n E hE E [] f false rfl hL
    cases b' with
    | true =>
      rcases h4 rfl with h | h
      · simp at h
      · obtain ⟨f2, e2, p2⟩ := ih f' (by omega) h1
        refine ⟨f2, ?_, p2⟩
        refine Ev.step (fun k => by simp only [impl_Net_parts.l1, if_true] <;> exact rfl) ?_
        exact h5 f2 e2
    | false =>
      obtain ⟨_, rfl, h⟩ := h3 rfl
      refine ⟨f', ?_, h1.parts hE.2.2.1 h⟩
      refine Ev.step (fun k => by simp only [impl_Net_parts.l1, if_true] <;> exact rfl) ?_
      refine h5 f' ?_
      refine Ev.step (fun k => by simp only [impl_Net_parts.l1, Bool.false_eq_true, if_false] <;> exact rfl) ?_
      exact Ev.val rfl
theorem rd_knots {n v : Int} (h0 : 0 ≤ v) (h1 : v < n) : rd (knots n) v = v := by
  unfold rd knots
  rw [List.getD_eq_getElem?_getD, List.getElem?_map, List.getElem?_range (by omega)]
  simp [Int.toNat_of_nonneg h0]
theorem parts_l0 (n : Int) (E : List S51) (h8 : n ≤ 8) : ∀ (d : Nat) (i : Int), 0 ≤ i → i + d = n → ∀ r, Ev (fun k => impl_Net_parts.l1 k (knots n) true n E) r →
    Ev (fun k => impl_Net_parts.l0 k (knots i) n i n E) r := by
  intro d
  induction d with
  | zero =>
    intro i h0 hi r hr
    have hi' : i = n := by omega
    subst hi'
    have c : ¬ i < i := by omega
    exact Ev.step (fun k => by simp only [impl_Net_parts.l0, c, if_false] <;> exact rfl) hr
  | succ d ih =>
    intro i h0 hi r hr
    have c : i < n := by omega
    have w : wrap64 (i + 1) = i + 1 := w64 (by omega) (by omega)
    have hl : (knots i).length < 17592186044416 := by rw [knots_len]; omega
    refine Ev.step (fun k => by simp only [impl_Net_parts.l0, c, if_true, w, hl, ← knots_succ h0] <;> exact rfl) ?_
    exact ih (i + 1) (by omega) (by omega) r hr
theorem parts_ev (n : Int) (E : List S51) (hE : ok n E) : ∃ f, Ev (fun k => impl_Net_parts.f k n E) f ∧ Parts n E f := by
  have hL : Lab n E (knots n) := by
    have h0 := hE.1
    refine ⟨by rw [knots_len]; omega, fun v h0 h1 => ?_, fun v h0 h1 => ?_⟩
    · rw [rd_knots h0 h1]; exact ⟨h0, Int.le_refl _⟩
    · rw [rd_knots h0 h1]; exact .refl _
  obtain ⟨f, h1, h2⟩ := parts_l1 n E hE _ (knots n) (Nat.le_refl _) hL
  refine ⟨f, ?_, h2⟩
  unfold impl_Net_parts.f
  have h0 := hE.1
  exact parts_l0 n E hE.2.1 n.toNat 0 (Int.le_refl 0) (by omega) f h1
end Go.Proofs.YtjkeagcenmmknaaDoor.P
namespace Go.Proofs.YtjkeagcenmmknaaDoor.P
open Go.RowKit Go.Proofs.YtjkeagcenmmknaaDoorW.PrintWords Go.Proofs.YtjkeagcenmmknaaDoor.G
def PL (n : Int) (E : List Tie) (a : List Int) : Prop := ∀ v, 0 ≤ v → v < (a.length : Int) → 0 ≤ rd a v ∧ rd a v ≤ v ∧ Conn E v (rd a v) ∧ ∀ u, 0 ≤ u → u < n → Conn E v u → rd a v ≤ u
theorem rd_old {a : List Int} {x v : Int} (h0 : 0 ≤ v) (h1 : v < (a.length : Int)) : rd (a ++ [x]) v = rd a v := by
 unfold rd
 rw [List.getD_eq_getElem?_getD, List.getD_eq_getElem?_getD, List.getElem?_append_left (by omega)]
theorem rd_last (a : List Int) (x : Int) : rd (a ++ [x]) (a.length : Int) = x := rd_mid a x []
theorem PL.parts {n : Int} {E : List Tie} {a : List Int} (h : PL n E a) (hl : (a.length : Int) = n) : Parts n E a where
 len := hl
 low := fun v h0 h1 => ⟨(h v h0 (by omega)).1, (h v h0 (by omega)).2.1⟩
 conn := fun v h0 h1 => (h v h0 (by omega)).2.2.1
 same := fun u v u0 u1 v0 v1 c => by
  obtain ⟨a1, a2, a3, a4⟩ := h u u0 (by omega)
  obtain ⟨b1, b2, b3, b4⟩ := h v v0 (by omega)
  have := a4 _ b1 (by omega) (c.trans b3)
  have := b4 _ a1 (by omega) (c.symm.trans a3)
  omega
theorem wparts_l1 (n i : Int) (E : List S51) (f : List Bool) (hf : (f.length : Int) = n) (h8 : n ≤ 8) (hfc : ∀ v, 0 ≤ v → v < n → (rdOf false f v = true ↔ Conn E i v)) (i0 : 0 ≤ i) (i1 : i < n) (a : List Int) (hal : (a.length : Int) = i) :
  ∀ (d : Nat) (v : Int), 0 ≤ v → v + d = i → (∀ u, 0 ≤ u → u < v → ¬ Conn E i u) → ∃ x, 0 ≤ x ∧ x ≤ i ∧ Conn E i x ∧ (∀ u, 0 ≤ u → u < x → ¬ Conn E i u) ∧
   ∀ r, Ev (fun k => spec_WayParts.l0 k (a ++ [x]) (i + 1) n E) r → Ev (fun k => spec_WayParts.l1 k a i f v n E) r := by
 intro d
 have wi : wrap64 (i + 1) = i + 1 := w64 (by omega) (by omega)
 have al : a.length < 17592186044416 := by omega
 induction d with
 | zero =>
  intro v h0 hd hu
  obtain rfl : v = i := by omega
  have c : rdOf false f v = true := (hfc v h0 i1).2 (.refl _)
  refine ⟨v, h0, Int.le_refl _, .refl _, hu, fun r hr => ?_⟩
  have f1 : v < (f.length : Int) := by omega
  refine Ev.step (fun k => by simp only [spec_WayParts.l1, if_pos h0, if_pos f1, if_pos c, if_pos al, wi] <;> exact rfl) hr
 | succ d ih =>
  intro v h0 hd hu
  have f1 : v < (f.length : Int) := by omega
  have wv : wrap64 (v + 1) = v + 1 := w64 (by omega) (by omega)
  by_cases c : rdOf false f v = true
  ·refine ⟨v, h0, by omega, (hfc v h0 (by omega)).1 c, hu, fun r hr => ?_⟩
   refine Ev.step (fun k => by simp only [spec_WayParts.l1, if_pos h0, if_pos f1, if_pos c, if_pos al, wi] <;> exact rfl) hr
  ·have nc : ¬ Conn E i v := fun q => c ((hfc v h0 (by omega)).2 q)
   obtain ⟨x, x0, x1, x2, x3, x4⟩ := ih (v + 1) (by omega) (by omega) (fun u u0 u1 => by
    by_cases e : u = v
    ·subst e; exact nc
    ·exact hu u u0 (by omega))
   refine ⟨x, x0, x1, x2, x3, fun r hr => ?_⟩
   refine Ev.step (fun k => by simp only [spec_WayParts.l1, if_pos h0, if_pos f1, if_neg c, wv] <;> exact rfl) (x4 r hr)
theorem wparts_l0 (n : Int) (E : List S51) (hE : ok n E) : ∀ (d : Nat) (i : Int) (a : List Int), 0 ≤ i → i + d = n → (a.length : Int) = i → PL n E a →
  ∃ f, Ev (fun k => spec_WayParts.l0 k a i n E) f ∧ Parts n E f := by
 intro d
 induction d with
 | zero =>
  intro i a h0 h hl hp
  obtain rfl : i = n := by omega
  exact ⟨a, Ev.step (fun k => by simp only [spec_WayParts.l0, if_neg (Int.lt_irrefl _)] <;> exact rfl) (Ev.val rfl), hp.parts hl⟩
 | succ d ih =>
  intro i a h0 h hl hp
  have c : i < n := by omega
  obtain ⟨fl, e1, e2, e3⟩ := reach_ev n E i hE h0 c
  obtain ⟨x, x0, x1, x2, x3, x4⟩ := wparts_l1 n i E fl e2 hE.2.1 e3 h0 c a hl i.toNat 0 (Int.le_refl _) (by omega) (fun u u0 u1 => by omega)
  obtain ⟨f, f1, f2⟩ := ih (i + 1) (a ++ [x]) (by omega) (by omega) (by simp; omega) (fun v v0 v1 => by
   by_cases e : v = i
   ·subst e
    have : rd (a ++ [x]) v = x := by rw [← hl]; exact rd_last a x
    rw [this]
    refine ⟨x0, x1, x2, fun u u0 u1 cu => ?_⟩
    apply Classical.byContradiction
    intro q
    exact x3 u u0 (by omega) cu
   ·have v2 : v < (a.length : Int) := by simp at v1; omega
    rw [rd_old v0 v2]
    exact hp v v0 v2)
  exact ⟨f, Ev.step (fun k => by simp only [spec_WayParts.l0, if_pos c] <;> exact rfl) (Ev.bind e1 (x4 f f1)), f2⟩
theorem wparts_ev (n : Int) (E : List S51) (hE : ok n E) : ∃ f, Ev (fun k => spec_WayParts.f k n E) f ∧ Parts n E f := by
 have h0 := hE.1
 obtain ⟨f, a, b⟩ := wparts_l0 n E hE n.toNat 0 [] (Int.le_refl _) (by omega) rfl (fun v v0 v1 => by simp at v1; omega)
 refine ⟨f, ?_, b⟩
 unfold spec_WayParts.f
 simp only [Option.bind_some]
 refine Ev.bind (specOk n E (by have := ok_len hE; unfold big; omega)) ?_
 simp only [decide_eq_true hE, if_true]
 exact a
end Go.Proofs.YtjkeagcenmmknaaDoor.P
namespace Go.Proofs.YtjkeagcenmmknaaDoor.G
open Go.RowKit Go.Proofs.YtjkeagcenmmknaaDoorW.PrintWords Go.Proofs.YtjkeagcenmmknaaDoor.P
def woL (E : List Tie) (S : List Int) : List Tie := S.foldl wo E
theorem woL_last (E : List Tie) (S : List Int) (v : Int) : woL E (S ++ [v]) = wo (woL E S) v := by unfold woL; rw [List.foldl_append]; rfl
theorem ok_woL {n : Int} : ∀ {E : List Tie} (S : List Int), ok n E → ok n (woL E S)
 | _, [], h => h
 | E, v :: r, h => ok_woL (E := wo E v) r (ok_wo h v)
theorem mem_woL {t : Tie} : ∀ {E : List Tie} (S : List Int), t ∈ woL E S ↔ t ∈ E ∧ t.f0 ∉ S ∧ t.f1 ∉ S
 | E, [] => by simp [woL]
 | E, v :: r => by
  show t ∈ woL (wo E v) r ↔ _
  rw [mem_woL r, mem_wo]
  simp only [List.mem_cons, not_or]
  constructor
  ·rintro ⟨⟨a, b, c⟩, d, e⟩; exact ⟨a, ⟨b, d⟩, c, e⟩
  ·rintro ⟨a, ⟨b, d⟩, c, e⟩; exact ⟨⟨a, b, c⟩, d, e⟩
def selTo (b : Nat) (j : Int) : List Int := (knots j).filter fun v => b.testBit v.toNat
theorem selTo_succ {b : Nat} {j : Int} (h : 0 ≤ j) : selTo b (j + 1) = selTo b j ++ if b.testBit j.toNat then [j] else [] := by
 unfold selTo
 rw [knots_succ h, List.filter_append]
 congr 1
 cases q : b.testBit j.toNat <;> simp [q]
theorem selTo_len (b : Nat) (j : Int) : (selTo b j).length ≤ j.toNat := by
 have : (selTo b j).length ≤ (knots j).length := List.length_filter_le _ _
 rwa [knots_len] at this
theorem mem_selTo {b : Nat} {j v : Int} : v ∈ selTo b j ↔ (0 ≤ v ∧ v < j) ∧ b.testBit v.toNat = true := by
 unfold selTo
 rw [List.mem_filter, mem_knots]
def tally (n : Int) (f S : List Int) (j : Int) : List Int := (knots n).map fun p => (((knots j).filter fun k => decide (k ∉ S) && decide (rd f k = p)).length : Int)
theorem tally_len (n : Int) (f S : List Int) (j : Int) : (tally n f S j).length = n.toNat := by unfold tally; rw [List.length_map, knots_len]
theorem rd_mapK {n p : Int} (g : Int → Int) (h0 : 0 ≤ p) (h1 : p < n) : rd ((knots n).map g) p = g p := by
 unfold rd knots
 rw [List.getD_eq_getElem?_getD, List.getElem?_map, List.getElem?_map, List.getElem?_range (by omega)]
 simp [Int.toNat_of_nonneg h0]
theorem tally_rd {n p : Int} (f S : List Int) (j : Int) (h0 : 0 ≤ p) (h1 : p < n) : rd (tally n f S j) p = (((knots j).filter fun k => decide (k ∉ S) && decide (rd f k = p)).length : Int) := rd_mapK _ h0 h1
theorem tally_zero (n : Int) (f S : List Int) : tally n f S 0 = List.replicate n.toNat 0 := by
 apply List.ext_getElem?
 intro i
 unfold tally
 rw [List.getElem?_map]
 unfold knots
 by_cases h : i < n.toNat
 ·rw [List.getElem?_map, List.getElem?_range h, List.getElem?_replicate, if_pos h]; simp
 ·rw [List.getElem?_eq_none (by simp; omega), List.getElem?_eq_none (by simp; omega)]; rfl
theorem tally_skip {n : Int} {f S : List Int} {j : Int} (h : 0 ≤ j) (hS : j ∈ S) : tally n f S (j + 1) = tally n f S j := by
 unfold tally
 refine List.map_congr_left (fun p _ => ?_)
 rw [knots_succ h, List.filter_append]
 simp [hS]
theorem tally_step {n : Int} {f S : List Int} {j : Int} (h : 0 ≤ j) (hS : j ∉ S) (r0 : 0 ≤ rd f j) (r1 : rd f j < n) : (tally n f S j).set (rd f j).toNat (rd (tally n f S j) (rd f j) + 1) = tally n f S (j + 1) := by
 rw [tally_rd f S j r0 r1]
 apply List.ext_getElem?
 intro i
 rw [List.getElem?_set]
 unfold tally
 rw [List.length_map, knots_len]
 by_cases e : (rd f j).toNat = i
 ·rw [if_pos e, if_pos (by omega)]
  rw [List.getElem?_map]
  unfold knots
  rw [List.getElem?_map, List.getElem?_range (by omega)]
  simp only [Option.map_some]
  congr 1
  have ei : rd f j = (i : Int) := by omega
  rw [show (List.range (j + 1).toNat).map (fun (i : Nat) => (i : Int)) = knots (j + 1) from rfl, knots_succ h, List.filter_append]
  simp [hS, ei, knots]
 ·rw [if_neg e]
  rw [List.getElem?_map, List.getElem?_map]
  unfold knots
  by_cases hi : i < n.toNat
  ·rw [List.getElem?_map, List.getElem?_range hi]
   simp only [Option.map_some]
   congr 1
   rw [show (List.range (j + 1).toNat).map (fun (i : Nat) => (i : Int)) = knots (j + 1) from rfl, knots_succ h, List.filter_append]
   have ei : ¬ rd f j = (i : Int) := by omega
   simp [hS, ei, knots]
  ·rw [List.getElem?_eq_none (by simp; omega)]
   rfl
theorem tally_nonneg {n : Int} {f S : List Int} {j x : Int} (h : x ∈ tally n f S j) : 0 ≤ x ∧ x ≤ j.toNat := by
 unfold tally at h
 obtain ⟨p, _, rfl⟩ := List.mem_map.1 h
 have : ((knots j).filter fun k => decide (k ∉ S) && decide (rd f k = p)).length ≤ (knots j).length := List.length_filter_le _ _
 rw [knots_len] at this
 omega
def oddN (l : List Int) : Int := (l.map fun x => x % 2).sum
theorem oddN_app (p : List Int) (x : Int) : oddN (p ++ [x]) = oddN p + x % 2 := by unfold oddN; rw [List.map_append, List.sum_append]; simp
theorem oddN_bound : ∀ l : List Int, 0 ≤ oddN l ∧ oddN l ≤ l.length
 | [] => by simp [oddN]
 | x :: r => by
  have := oddN_bound r
  have e : oddN (x :: r) = x % 2 + oddN r := rfl
  rw [e]
  simp only [List.length_cons]
  omega
theorem bit_facts : ∀ b : Nat, b < 256 → ∀ k : Nat, k < 8 → (Go.bits .and .i64 (shr .i64 (b : Int) (k : Int)) 1 = if b.testBit k then 1 else 0) ∧ Int.tmod (shr .i64 (b : Int) (k : Int)) 2 = if b.testBit k then 1 else 0 := by decide +kernel
theorem shl_facts : ∀ n : Nat, n ≤ 8 → shl .i64 1 (n : Int) = ((2 ^ n : Nat) : Int) ∧ 2 ^ n ≤ 256 := by decide +kernel
end Go.Proofs.YtjkeagcenmmknaaDoor.G
namespace Go.Proofs.YtjkeagcenmmknaaDoor.P
open Go.RowKit Go.Proofs.YtjkeagcenmmknaaDoorW.PrintWords Go.Proofs.YtjkeagcenmmknaaDoor.G
def shows (n : Int) (E : List Tie) (S : List Int) (o : Int) : Prop := ∃ f, Parts n (woL E S) f ∧ o = oddN (tally n f S n)
theorem shows_unique {n : Int} {E : List Tie} {S : List Int} {o o' : Int} (h : shows n E S o) (k : shows n E S o') : o = o' := by
 obtain ⟨f, a, rfl⟩ := h
 obtain ⟨g, b, rfl⟩ := k
 rw [a.unique b]
theorem specWithout_l0 (n m a : Int) (c : Int) (E : List S51) : ∀ (suf p q : List S51), ((p ++ suf).length : Int) ≤ 1048576 → q.length ≤ p.length →
  Ev (fun k => spec_NetWithout.l0 k a (p.length : Int) c (p ++ suf) m q) (m, q ++ wo suf a) := by
 intro suf
 induction suf with
 | nil =>
  intro p q hb hq
  refine Ev.step (fun k => by simp only [spec_NetWithout.l0, nlt_end, if_false] <;> exact rfl) ?_
  exact Ev.val (by simp [wo])
 | cons t suf ih =>
  intro p q hb hq
  have hb' : ((p ++ t :: suf).length : Int) < big := by unfold big; omega
  have hp : (p.length : Int) < big := len_mid hb'
  have hq8 : q.length < 8796093022208 := by rw [List.length_append] at hb; omega
  by_cases c : t.f0 = a
  ·refine Ev.step (fun k => by simp only [spec_NetWithout.l0, lt_mid, nn, if_true, rdC_mid, w_succ (t := t) hp, if_pos c] <;> exact rfl) ?_
   rw [app_one p t suf]
   refine Ev.eq (ih (p ++ [t]) q (by rw [← app_one]; exact hb) (by simp; omega)) ?_
   simp [wo, c]
  ·by_cases d : t.f1 = a
   ·refine Ev.step (fun k => by simp only [spec_NetWithout.l0, lt_mid, nn, if_true, rdC_mid, w_succ (t := t) hp, if_neg c, if_pos d] <;> exact rfl) ?_
    rw [app_one p t suf]
    refine Ev.eq (ih (p ++ [t]) q (by rw [← app_one]; exact hb) (by simp; omega)) ?_
    simp [wo, d]
   ·refine Ev.step (fun k => by simp only [spec_NetWithout.l0, lt_mid, nn, if_true, rdC_mid, w_succ (t := t) hp, if_neg c, if_neg d, if_pos hq8] <;> exact rfl) ?_
    rw [app_one p t suf]
    refine Ev.eq (ih (p ++ [t]) (q ++ [t]) (by rw [← app_one]; exact hb) (by simp; omega)) ?_
    simp [wo, c, d]
theorem specWithout_ev (n a : Int) (E : List S51) (h : ok n E) (h0 : 0 ≤ a) (h1 : a < n) : Ev (fun k => spec_NetWithout.f k n E a) (n, wo E a) := by
 have hl := ok_len h
 unfold spec_NetWithout.f
 refine Ev.bind (l1Knot_ev n a E (by unfold big; omega)) ?_
 simp only [decide_eq_true (show ok n E ∧ 0 ≤ a ∧ a < n from ⟨h, h0, h1⟩), if_true]
 exact specWithout_l0 n n a n E E [] [] (by rw [List.nil_append]; omega) (Nat.le_refl _)
theorem l2Has_l0 (a : Int) : ∀ (suf p : List Int), ((p ++ suf).length : Int) < big → a ∉ p → Ev (fun k => spec_l2Has.l0 k (p ++ suf) a (p.length : Int)) (decide (a ∈ p ++ suf)) := by
 intro suf
 induction suf with
 | nil =>
  intro p hb hp
  refine Ev.step (fun k => by simp only [spec_l2Has.l0, nlt_end, if_false] <;> exact rfl) (Ev.val ?_)
  rw [decide_eq_false (by simpa using hp)]
 | cons t suf ih =>
  intro p hb hp
  have hl : (p.length : Int) < big := len_mid hb
  by_cases c : t = a
  ·refine Ev.step (fun k => by simp only [spec_l2Has.l0, lt_mid, nn, if_true, rd_mid, if_pos c] <;> exact rfl) (Ev.val ?_)
   rw [decide_eq_true (by simp [c])]
  ·refine Ev.step (fun k => by simp only [spec_l2Has.l0, lt_mid, nn, if_true, rd_mid, if_neg c, w_succ (t := t) hl] <;> exact rfl) ?_
   rw [app_one p t suf]
   exact ih (p ++ [t]) (by rw [← app_one]; exact hb) (fun q => by
    rcases List.mem_append.1 q with q | q
    ·exact hp q
    ·exact c (List.mem_singleton.1 q).symm)
theorem l2Has_ev (S : List Int) (a : Int) (hb : (S.length : Int) < big) : Ev (fun k => spec_l2Has.f k S a) (decide (a ∈ S)) := by
 unfold spec_l2Has.f
 exact l2Has_l0 a S [] hb (by simp)
theorem odd_l2 : ∀ (suf p : List Int), ((p ++ suf).length : Int) ≤ 100 → (∀ x ∈ p ++ suf, 0 ≤ x) → Ev (fun k => spec_l24Odd.l2 k (p ++ suf) (oddN p) (p.length : Int)) (oddN (p ++ suf)) := by
 intro suf
 induction suf with
 | nil =>
  intro p hb h0
  rw [List.append_nil]
  have c : ¬ (p.length : Int) < (p.length : Int) := by omega
  exact Ev.step (fun k => by simp only [spec_l24Odd.l2, if_neg c] <;> exact rfl) (Ev.val rfl)
 | cons x suf ih =>
  intro p hb h0
  have hp : (p.length : Int) < big := by rw [List.length_append] at hb; unfold big; omega
  have tm : Int.tmod x 2 = x % 2 := Int.tmod_eq_emod_of_nonneg (h0 x (by simp))
  have ob := oddN_bound p
  have w : wrap64 (oddN p + x % 2) = oddN (p ++ [x]) := by rw [oddN_app]; exact w64 (by omega) (by rw [List.length_append] at hb; omega)
  refine Ev.step (fun k => by simp only [spec_l24Odd.l2, lt_mid, nn, if_true, rd_mid, tm, w, w_succ (t := x) hp] <;> exact rfl) ?_
  rw [app_one p x suf]
  exact ih (p ++ [x]) (by rw [← app_one]; exact hb) (by rw [← app_one]; exact h0)
theorem odd_l1 (n : Int) (f S : List Int) (h0 : 0 ≤ n) (h8 : n ≤ 8) (hf : (f.length : Int) = n) (hr : ∀ v, 0 ≤ v → v < n → 0 ≤ rd f v ∧ rd f v < n) (hS : (S.length : Int) < big) :
  ∀ (d : Nat) (j : Int), 0 ≤ j → j + d = n → Ev (fun k => spec_l24Odd.l1 k S f (tally n f S j) j) (oddN (tally n f S n)) := by
 intro d
 induction d with
 | zero =>
  intro j j0 hj
  obtain rfl : j = n := by omega
  have c : ¬ j < (f.length : Int) := by omega
  refine Ev.step (fun k => by simp only [spec_l24Odd.l1, if_neg c] <;> exact rfl) ?_
  exact odd_l2 (tally j f S j) [] (by rw [List.nil_append, tally_len]; omega) (fun x hx => (tally_nonneg hx).1)
 | succ d ih =>
  intro j j0 hj
  have c : j < (f.length : Int) := by omega
  have w : wrap64 (j + 1) = j + 1 := w64 (by omega) (by omega)
  have next := ih (j + 1) (by omega) (by omega)
  refine Ev.step (fun k => by simp only [spec_l24Odd.l1, if_pos c, w] <;> exact rfl) ?_
  refine Ev.bind (l2Has_ev S j hS) ?_
  by_cases m : j ∈ S
  ·simp only [decide_eq_true m, if_true]
   rw [tally_skip j0 m] at next
   exact next
  ·obtain ⟨r0, r1⟩ := hr j j0 (by omega)
   have tl : (rd f j) < ((tally n f S j).length : Int) := by rw [tally_len]; omega
   have wt : wrap64 (rd (tally n f S j) (rd f j) + 1) = rd (tally n f S j) (rd f j) + 1 := by
    rw [tally_rd f S j r0 r1]
    have : ((knots j).filter fun k => decide (k ∉ S) && decide (rd f k = rd f j)).length ≤ (knots j).length := List.length_filter_le _ _
    rw [knots_len] at this
    exact w64 (by omega) (by omega)
   simp only [decide_eq_false m, Bool.false_eq_true, if_false, if_pos j0, if_pos r0, if_pos tl, wt]
   rw [tally_step j0 m r0 r1]
   exact next
theorem odd_l0 (n : Int) (E : List S51) (S : List Int) (hE : ok n E) (hS : ∀ v ∈ S, 0 ≤ v ∧ v < n) (hSl : (S.length : Int) < big) : ∀ (suf p : List Int), S = p ++ suf →
  ∃ o, Ev (fun k => spec_l24Odd.l0 k S (p.length : Int) n E n (woL E p)) o ∧ shows n E S o := by
 intro suf
 have h0 := hE.1
 have h8 := hE.2.1
 induction suf with
 | nil =>
  intro p he
  rw [List.append_nil] at he
  subst he
  have okw := ok_woL S hE
  obtain ⟨f, f1, f2⟩ := wparts_ev n (woL E S) okw
  have c : ¬ (S.length : Int) < (S.length : Int) := by omega
  have z : n.toNat ≤ 35184372088832 := by omega
  refine ⟨_, Ev.step (fun k => by simp only [spec_l24Odd.l0, if_neg c] <;> exact rfl) ?_, f, f2, rfl⟩
  refine Ev.bind f1 ?_
  simp only [if_pos h0, if_pos z]
  rw [← tally_zero n f S]
  exact odd_l1 n f S h0 h8 f2.len (fun v v0 v1 => by have := f2.low v v0 v1; omega) hSl n.toNat 0 (by omega) (by omega)
 | cons v suf ih =>
  intro p he
  obtain ⟨v0, v1⟩ := hS v (by rw [he]; simp)
  have c : (p.length : Int) < (S.length : Int) := by rw [he]; exact lt_mid p v suf
  have r : rd S (p.length : Int) = v := by rw [he]; exact rd_mid p v suf
  have w : wrap64 ((p.length : Int) + 1) = ((p ++ [v]).length : Int) := w_succ (by omega)
  obtain ⟨o, o1, o2⟩ := ih (p ++ [v]) (by rw [he]; simp)
  refine ⟨o, Ev.step (fun k => by simp only [spec_l24Odd.l0, if_pos c, nn, if_true, r, w] <;> exact rfl) ?_, o2⟩
  refine Ev.bind (specWithout_ev n v (woL E p) (ok_woL p hE) v0 v1) ?_
  rw [woL_last] at o1
  exact o1
theorem l24Odd_ev (n : Int) (E : List S51) (S : List Int) (hE : ok n E) (hS : ∀ v ∈ S, 0 ≤ v ∧ v < n) (hSl : (S.length : Int) < big) : ∃ o, Ev (fun k => spec_l24Odd.f k n E S) o ∧ shows n E S o := by
 obtain ⟨o, o1, o2⟩ := odd_l0 n E S hE hS hSl S [] rfl
 refine ⟨o, ?_, o2⟩
 unfold spec_l24Odd.f
 simp only [copy_eq n E (by have := ok_len hE; omega), Option.bind_some]
 exact o1
end Go.Proofs.YtjkeagcenmmknaaDoor.P
namespace Go.Proofs.YtjkeagcenmmknaaDoor.P
open Go.RowKit Go.Proofs.YtjkeagcenmmknaaDoorW.PrintWords Go.Proofs.YtjkeagcenmmknaaDoor.G
theorem why_l3 (n : Int) (E : List S51) (S : List Int) (x3 : List Int) (z a5 b : Int) (hz : S.length ≤ 100) (n0 : 0 ≤ n) (n8 : n ≤ 8) (r : List Int) (dr : List Int) (hdr : ∀ x ∈ dr, 0 ≤ x) (hdl : dr.length ≤ 100)
  (hr : Ev (fun k => if n + (S.length : Int) - oddN dr = z then some S else impl_PairWhy.l0 k x3 z a5 (wrap64 (b + 1)) n E) r) :
  ∀ (suf p : List Int), dr = p ++ suf → Ev (fun k => impl_PairWhy.l3 k x3 z S (oddN p) a5 b dr (dr.length : Int) (p.length : Int) n E) r := by
 intro suf
 have ob := oddN_bound dr
 induction suf with
 | nil =>
  intro p he
  rw [List.append_nil] at he
  subst he
  have c : ¬ (dr.length : Int) < (dr.length : Int) := by omega
  have w : wrap64 (wrap64 (n + (S.length : Int)) - oddN dr) = n + (S.length : Int) - oddN dr := by
   rw [w64 (x := n + (S.length : Int)) (by omega) (by omega)]
   exact w64 (by omega) (by omega)
  refine Ev.step (fun k => by simp only [impl_PairWhy.l3, if_neg c, w] <;> exact rfl) ?_
  exact hr
 | cons x suf ih =>
  intro p he
  have c : (p.length : Int) < (dr.length : Int) := by rw [he]; exact lt_mid p x suf
  have rx : rd dr (p.length : Int) = x := by rw [he]; exact rd_mid p x suf
  have tm : Int.tmod x 2 = x % 2 := Int.tmod_eq_emod_of_nonneg (hdr x (by rw [he]; simp))
  have pb := oddN_bound p
  have pl : p.length ≤ 100 := by omega
  have w : wrap64 (oddN p + x % 2) = oddN (p ++ [x]) := by rw [oddN_app]; exact w64 (by omega) (by omega)
  have w1 : wrap64 ((p.length : Int) + 1) = ((p ++ [x]).length : Int) := w_succ (by unfold big; omega)
  refine Ev.step (fun k => by simp only [impl_PairWhy.l3, if_pos c, nn, if_true, rx, tm, w, w1] <;> exact rfl) ?_
  exact ih (p ++ [x]) (by rw [he]; simp)
theorem why_l2 (n : Int) (E : List S51) (b : Nat) (x3 : List Int) (z a5 : Int) (n0 : 0 ≤ n) (n8 : n ≤ 8) (hb : b < 256) (f : List Int) (hf : (f.length : Int) = n) (hfr : ∀ v, 0 ≤ v → v < n → 0 ≤ rd f v ∧ rd f v < n) (r : List Int)
  (hr : Ev (fun k => if n + ((selTo b n).length : Int) - oddN (tally n f (selTo b n) n) = z then some (selTo b n) else impl_PairWhy.l0 k x3 z a5 (wrap64 ((b : Int) + 1)) n E) r) :
  ∀ (d : Nat) (j : Int), 0 ≤ j → j + d = n → Ev (fun k => impl_PairWhy.l2 k x3 z (b : Int) (selTo b n) (tally n f (selTo b n) j) a5 (b : Int) f (f.length : Int) j n E) r := by
 intro d
 have sl := selTo_len b n
 induction d with
 | zero =>
  intro j j0 hj
  obtain rfl : j = n := by omega
  have c : ¬ j < (f.length : Int) := by omega
  refine Ev.step (fun k => by simp only [impl_PairWhy.l2, if_neg c] <;> exact rfl) ?_
  exact why_l3 j E (selTo b j) x3 z a5 (b : Int) (by omega) n0 n8 r (tally j f (selTo b j) j) (fun x hx => (tally_nonneg hx).1) (by rw [tally_len]; omega) hr (tally j f (selTo b j) j) [] rfl
 | succ d ih =>
  intro j j0 hj
  have c : j < (f.length : Int) := by omega
  have w : wrap64 (j + 1) = j + 1 := w64 (by omega) (by omega)
  have next := ih (j + 1) (by omega) (by omega)
  have bf := (bit_facts b hb j.toNat (by omega)).1
  rw [show ((j.toNat : Nat) : Int) = j from by omega] at bf
  by_cases m : b.testBit j.toNat = true
  ·have ms : j ∈ selTo b n := mem_selTo.2 ⟨⟨j0, by omega⟩, m⟩
   rw [if_pos m] at bf
   have bz : ¬ Go.bits .and .i64 (shr .i64 (b : Int) j) 1 = 0 := by rw [bf]; decide
   refine Ev.step (fun k => by simp only [impl_PairWhy.l2, if_pos c, if_pos j0, if_neg bz, w] <;> exact rfl) ?_
   rw [tally_skip j0 ms] at next
   exact next
  ·have ms : j ∉ selTo b n := fun q => m (mem_selTo.1 q).2
   rw [if_neg m] at bf
   obtain ⟨r0, r1⟩ := hfr j j0 (by omega)
   have tl : (rd f j) < ((tally n f (selTo b n) j).length : Int) := by rw [tally_len]; omega
   have wt : wrap64 (rd (tally n f (selTo b n) j) (rd f j) + 1) = rd (tally n f (selTo b n) j) (rd f j) + 1 := by
    rw [tally_rd f (selTo b n) j r0 r1]
    have : ((knots j).filter fun k => decide (k ∉ selTo b n) && decide (rd f k = rd f j)).length ≤ (knots j).length := List.length_filter_le _ _
    rw [knots_len] at this
    exact w64 (by omega) (by omega)
   refine Ev.step (fun k => by simp only [impl_PairWhy.l2, if_pos c, if_pos j0, if_pos bf, if_pos r0, if_pos tl, wt, w] <;> exact rfl) ?_
   rw [tally_step j0 ms r0 r1]
   exact next
theorem why_l1 (n : Int) (E : List S51) (hE : ok n E) (b : Nat) (hb : b < 256) (x3 : List Int) (z a5 : Int) (r : List Int) (o : Int) (ho : shows n E (selTo b n) o)
  (hr : Ev (fun k => if n + ((selTo b n).length : Int) - o = z then some (selTo b n) else impl_PairWhy.l0 k x3 z a5 (wrap64 ((b : Int) + 1)) n E) r) :
  ∀ (d : Nat) (j : Int), 0 ≤ j → j + d = n → Ev (fun k => impl_PairWhy.l1 k x3 z (b : Int) (selTo b j) a5 (b : Int) n j n E n (woL E (selTo b j))) r := by
 intro d
 have n0 := hE.1
 have n8 := hE.2.1
 have h64 := ok_len hE
 induction d with
 | zero =>
  intro j j0 hj
  obtain rfl : j = n := by omega
  have c : ¬ j < j := by omega
  have zz : j.toNat ≤ 35184372088832 := by omega
  obtain ⟨f, f1, f2⟩ := parts_ev j (woL E (selTo b j)) (ok_woL _ hE)
  refine Ev.step (fun k => by simp only [impl_PairWhy.l1, if_neg c, if_pos n0, if_pos zz] <;> exact rfl) ?_
  refine Ev.bind f1 ?_
  have e : o = oddN (tally j f (selTo b j) j) := shows_unique ho ⟨f, f2, rfl⟩
  rw [e] at hr
  rw [← tally_zero j f (selTo b j)]
  exact why_l2 j E b x3 z a5 n0 n8 hb f f2.len (fun v v0 v1 => by have := f2.low v v0 v1; omega) r hr j.toNat 0 (by omega) (by omega)
 | succ d ih =>
  intro j j0 hj
  have c : j < n := by omega
  have w : wrap64 (j + 1) = j + 1 := w64 (by omega) (by omega)
  have next := ih (j + 1) (by omega) (by omega)
  have bf := (bit_facts b hb j.toNat (by omega)).1
  rw [show ((j.toNat : Nat) : Int) = j from by omega] at bf
  have sl := selTo_len b j
  have okw := ok_woL (selTo b j) hE
  have ll := ok_len okw
  rw [selTo_succ j0] at next
  by_cases m : b.testBit j.toNat = true
  ·rw [if_pos m] at bf next
   have s17 : (selTo b j).length < 17592186044416 := by omega
   refine Ev.step (fun k => by simp only [impl_PairWhy.l1, if_pos c, if_pos j0, if_pos bf, if_pos s17, w] <;> exact rfl) ?_
   refine Ev.bind (without_ev n j (woL E (selTo b j)) (by omega)) ?_
   rw [woL_last] at next
   exact next
  ·rw [if_neg m] at bf next
   have bz : ¬ Go.bits .and .i64 (shr .i64 (b : Int) j) 1 = 1 := by rw [bf]; decide
   rw [List.append_nil] at next
   refine Ev.step (fun k => by simp only [impl_PairWhy.l1, if_pos c, if_pos j0, if_neg bz, w] <;> exact rfl) ?_
   exact next
theorem sw_l1 (n : Int) (E : List S51) (hE : ok n E) (b : Nat) (hb : b < 256) (x3 : List Int) (s : Int) (hs0 : -100 ≤ s) (hs1 : s ≤ 100) (r : List Int) (o : Int) (ho : shows n E (selTo b n) o) (hoe : Ev (fun k => spec_l24Odd.f k n E (selTo b n)) o) (ob : 0 ≤ o ∧ o ≤ 100)
  (hr : Ev (fun k => if n + ((selTo b n).length : Int) - o = 2 * s then some (selTo b n) else spec_PairWhy.l0 k x3 s (wrap64 ((b : Int) + 1)) n E) r) :
  ∀ (d : Nat) (j : Int), 0 ≤ j → j + d = n → Ev (fun k => spec_PairWhy.l1 k x3 s (b : Int) (selTo b j) j n E) r := by
 intro d
 have n0 := hE.1
 have n8 := hE.2.1
 induction d with
 | zero =>
  intro j j0 hj
  obtain rfl : j = n := by omega
  have c : ¬ j < j := by omega
  have sl := selTo_len b j
  have w2 : wrap64 (2 * s) = 2 * s := w64 (by omega) (by omega)
  have w1 : wrap64 (j + ((selTo b j).length : Int)) = j + ((selTo b j).length : Int) := w64 (by omega) (by omega)
  have w3 : wrap64 (j + ((selTo b j).length : Int) - o) = j + ((selTo b j).length : Int) - o := w64 (by omega) (by omega)
  refine Ev.step (fun k => by simp only [spec_PairWhy.l1, if_neg c] <;> exact rfl) ?_
  refine Ev.bind hoe ?_
  simp only [w1, w2, w3]
  exact hr
 | succ d ih =>
  intro j j0 hj
  have c : j < n := by omega
  have w : wrap64 (j + 1) = j + 1 := w64 (by omega) (by omega)
  have next := ih (j + 1) (by omega) (by omega)
  have bf := (bit_facts b hb j.toNat (by omega)).2
  rw [show ((j.toNat : Nat) : Int) = j from by omega] at bf
  have sl := selTo_len b j
  rw [selTo_succ j0] at next
  by_cases m : b.testBit j.toNat = true
  ·rw [if_pos m] at bf next
   have s17 : (selTo b j).length < 17592186044416 := by omega
   refine Ev.step (fun k => by simp only [spec_PairWhy.l1, if_pos c, if_pos j0, if_pos bf, if_pos s17, w] <;> exact rfl) ?_
   exact next
  ·rw [if_neg m] at bf next
   have bz : ¬ Int.tmod (shr .i64 (b : Int) j) 2 = 1 := by rw [bf]; decide
   rw [List.append_nil] at next
   refine Ev.step (fun k => by simp only [spec_PairWhy.l1, if_pos c, if_pos j0, if_neg bz, w] <;> exact rfl) ?_
   exact next
def told (n : Int) (E : List Tie) (s : Int) (b : Nat) (r : List Int) : Prop :=
 (∃ b', b ≤ b' ∧ r = selTo b' n ∧ ∃ o, shows n E r o ∧ n + (r.length : Int) - o = 2 * s) ∨ (r = [] ∧ ∀ b', b ≤ b' → (b' : Int) < 2 ^ n.toNat → ∀ o, shows n E (selTo b' n) o → ¬ n + ((selTo b' n).length : Int) - o = 2 * s)
theorem why_l0 (n : Int) (E : List S51) (hE : ok n E) (s : Int) (hs0 : -100 ≤ s) (hs1 : s ≤ 100) : ∀ (d b : Nat), b + d = 2 ^ n.toNat →
  ∃ r, Ev (fun k => impl_PairWhy.l0 k [] (2 * s) ((2 ^ n.toNat : Nat) : Int) (b : Int) n E) r ∧ Ev (fun k => spec_PairWhy.l0 k [] s (b : Int) n E) r ∧ told n E s b r := by
 intro d
 have n0 := hE.1
 have n8 := hE.2.1
 obtain ⟨sh, s256⟩ := shl_facts n.toNat (by omega)
 rw [show ((n.toNat : Nat) : Int) = n from by omega] at sh
 generalize hN : (2 ^ n.toNat : Nat) = N at sh s256 ⊢
 have hN' : ((2 : Int) ^ n.toNat) = (N : Int) := by rw [← hN]; simp
 induction d with
 | zero =>
  intro b hb
  obtain rfl : b = N := by omega
  have c : ¬ (b : Int) < (b : Int) := by omega
  refine ⟨[], Ev.step (fun k => by simp only [impl_PairWhy.l0, if_neg c] <;> exact rfl) (Ev.val rfl), Ev.step (fun k => by simp only [spec_PairWhy.l0, if_pos n0, sh, if_neg c] <;> exact rfl) (Ev.val rfl), Or.inr ⟨rfl, fun b' h1 h2 => by rw [hN'] at h2; omega⟩⟩
 | succ d ih =>
  intro b hb
  have c : (b : Int) < (N : Int) := by omega
  have wb : wrap64 ((b : Int) + 1) = ((b + 1 : Nat) : Int) := by rw [w64 (by omega) (by omega)]; omega
  have sl := selTo_len b n
  obtain ⟨o, o1, o2⟩ := l24Odd_ev n E (selTo b n) hE (fun v hv => (mem_selTo.1 hv).1) (by unfold big; omega)
  have ob : 0 ≤ o ∧ o ≤ 100 := by
   obtain ⟨f, _, rfl⟩ := o2
   have := oddN_bound (tally n f (selTo b n) n)
   rw [tally_len] at this
   omega
  have e0 : selTo b 0 = [] := rfl
  by_cases q : n + ((selTo b n).length : Int) - o = 2 * s
  ·refine ⟨selTo b n, Ev.step (fun k => by simp only [impl_PairWhy.l0, if_pos c] <;> exact rfl) ?_, Ev.step (fun k => by simp only [spec_PairWhy.l0, if_pos n0, sh, if_pos c] <;> exact rfl) ?_, Or.inl ⟨b, Nat.le_refl _, rfl, o, o2, q⟩⟩
   ·exact why_l1 n E hE b (by omega) [] (2 * s) (N : Int) (selTo b n) o o2 (by simp only [if_pos q]; exact Ev.val rfl) n.toNat 0 (by omega) (by omega)
   ·exact sw_l1 n E hE b (by omega) [] s hs0 hs1 (selTo b n) o o2 o1 ob (by simp only [if_pos q]; exact Ev.val rfl) n.toNat 0 (by omega) (by omega)
  ·obtain ⟨r, r1, r2, r3⟩ := ih (b + 1) (by omega)
   refine ⟨r, Ev.step (fun k => by simp only [impl_PairWhy.l0, if_pos c] <;> exact rfl) ?_, Ev.step (fun k => by simp only [spec_PairWhy.l0, if_pos n0, sh, if_pos c] <;> exact rfl) ?_, ?_⟩
   ·exact why_l1 n E hE b (by omega) [] (2 * s) (N : Int) r o o2 (by simp only [if_neg q, wb]; exact r1) n.toNat 0 (by omega) (by omega)
   ·exact sw_l1 n E hE b (by omega) [] s hs0 hs1 r o o2 o1 ob (by simp only [if_neg q, wb]; exact r2) n.toNat 0 (by omega) (by omega)
   ·rcases r3 with ⟨b', h1, h2⟩ | ⟨h1, h2⟩
    ·exact Or.inl ⟨b', by omega, h2⟩
    ·refine Or.inr ⟨h1, fun b' k1 k2 o' k3 => ?_⟩
     by_cases e : b' = b
     ·subst e
      rw [shows_unique k3 o2]; exact q
     ·exact h2 b' (by omega) k2 o' k3
theorem why_both (n : Int) (E : List S51) (hb : (E.length : Int) < big) : ∃ r, Ev (fun k => impl_PairWhy.f k n E) r ∧ Ev (fun k => spec_PairWhy.f k n E) r ∧ r.length ≤ 8 ∧ (ok n E → told n E (most E [] : Int) 0 r) := by
 by_cases h : ok n E
 ·have n0 := h.1
  have n8 := h.2.1
  have h64 := ok_len h
  have ml := most_len E []
  obtain ⟨r, r1, r2, r3⟩ := why_l0 n E h (most E [] : Int) (by omega) (by omega) (2 ^ n.toNat) 0 (by omega)
  obtain ⟨sh, s256⟩ := shl_facts n.toNat (by omega)
  rw [show ((n.toNat : Nat) : Int) = n from by omega] at sh
  refine ⟨r, ?_, ?_, ?_, fun _ => r3⟩
  ·unfold impl_PairWhy.f
   simp only [Option.bind_some]
   refine Ev.bind (implOk n E hb) ?_
   have w : wrap64 (2 * (most E [] : Int)) = 2 * (most E [] : Int) := w64 (by omega) (by omega)
   simp only [decide_eq_true h, if_true, size_eq h, Option.bind_some, if_pos n0, w, sh]
   exact r1
  ·unfold spec_PairWhy.f
   simp only [Option.bind_some]
   refine Ev.bind (specOk n E hb) ?_
   simp only [decide_eq_true h, if_true]
   refine Ev.bind (sizeSpec n E hb) ?_
   have hs : sizeOf n E = (most E [] : Int) := by unfold sizeOf; rw [if_pos h]
   rw [hs]
   exact r2
  ·rcases r3 with ⟨b', _, rfl, _⟩ | ⟨rfl, _⟩
   ·have := selTo_len b' n
    omega
   ·simp
 ·refine ⟨[], ?_, ?_, by simp, fun q => absurd q h⟩
  ·unfold impl_PairWhy.f
   simp only [Option.bind_some]
   refine Ev.bind (implOk n E hb) ?_
   simp only [decide_eq_false h, Bool.false_eq_true, if_false]
   exact Ev.val rfl
  ·unfold spec_PairWhy.f
   simp only [Option.bind_some]
   refine Ev.bind (specOk n E hb) ?_
   simp only [decide_eq_false h, Bool.false_eq_true, if_false]
   exact Ev.val rfl
end Go.Proofs.YtjkeagcenmmknaaDoor.P
namespace Go.Proofs.YtjkeagcenmmknaaDoor.G
open Go.RowKit Go.Proofs.YtjkeagcenmmknaaDoorW.PrintWords
def adj (X : List Tie) (a b : Int) : Prop := ∃ s ∈ X, (s.f0 = a ∧ s.f1 = b) ∨ (s.f0 = b ∧ s.f1 = a)
def Wk (X : List Tie) : Nat → Int → Int → Prop
 | 0, u, w => u = w
 | d + 1, u, w => ∃ t, Wk X d u t ∧ adj X t w
theorem no_adj {X M : List Tie} (hne : ∀ t ∈ X, t.f0 ≠ t.f1) (fM : fits X [] M) (lM : M.length = most X []) {u w : Int} (hu : u ∉ verts M) (hw : w ∉ verts M) : ¬ adj X u w := by
 rintro ⟨s, hs, o⟩
 have e0 : s.f0 ∉ verts M := by rcases o with ⟨a, b⟩ | ⟨a, b⟩ <;> (rw [a]; assumption)
 have e1 : s.f1 ∉ verts M := by rcases o with ⟨a, b⟩ | ⟨a, b⟩ <;> (rw [b]; assumption)
 have := most_le X [] (s :: M) ⟨fun x hx => by
  rcases List.mem_cons.1 hx with rfl | hx
  ·exact hs
  ·exact fM.1 x hx, by
  rw [verts_cons, List.nodup_cons, List.nodup_cons]
  refine ⟨fun q => ?_, e1, fM.2.1⟩
  rcases List.mem_cons.1 q with q | q
  ·exact hne s hs q
  ·exact e0 q, by simp⟩
 simp only [List.length_cons] at this
 omega
def inter (M N : List Tie) : Nat := (N.filter fun e => decide (e ∈ M)).length
theorem exchange {X M N : List Tie} (hne : ∀ t ∈ X, t.f0 ≠ t.f1) (fM : fits X [] M) (lM : M.length = most X []) (fN : fits X [] N) (lN : N.length = most X []) {u w t : Int} (hu : u ∉ verts M) (hw : w ∉ verts M) (huw : u ≠ w) (ht : t ∉ verts N) (hu2 : u ∈ verts N) (hw2 : w ∈ verts N) :
  ∃ N', fits X [] N' ∧ N'.length = most X [] ∧ t ∉ verts N' ∧ inter M N' = inter M N + 1 := by
 -- a knot of M that N leaves out, other than t
 obtain ⟨x, hxM, hxN, hxt⟩ : ∃ x, x ∈ verts M ∧ x ∉ verts N ∧ x ≠ t := by
  apply Classical.byContradiction
  intro no
  have all : ∀ x ∈ verts M, x ≠ t → x ∈ verts N := fun x hx ne => by
   apply Classical.byContradiction
   intro q
   exact no ⟨x, hx, q, ne⟩
  have nd : (u :: w :: (verts M).erase t).Nodup := by
   rw [List.nodup_cons, List.nodup_cons]
   refine ⟨fun q => ?_, fun q => hw (List.mem_of_mem_erase q), fM.2.1.erase t⟩
   rcases List.mem_cons.1 q with q | q
   ·exact huw q
   ·exact hu (List.mem_of_mem_erase q)
  have le := nodup_len_le nd (m := verts N) (fun v hv => by
   rcases List.mem_cons.1 hv with rfl | hv
   ·exact hu2
   ·rcases List.mem_cons.1 hv with rfl | hv
    ·exact hw2
    ·have := (fM.2.1.mem_erase_iff).1 hv
     exact all v this.2 this.1)
  have l1 : (verts M).length - 1 ≤ ((verts M).erase t).length := by
   rw [List.length_erase]
   split <;> omega
  simp only [List.length_cons] at le
  rw [verts_len] at le l1
  omega
 obtain ⟨s, hs, os⟩ := mem_verts.1 hxM
 obtain ⟨y, hy⟩ : ∃ y, (s.f0 = x ∧ s.f1 = y) ∨ (s.f0 = y ∧ s.f1 = x) := by
  rcases os with e | e
  ·exact ⟨s.f1, Or.inl ⟨e.symm, rfl⟩⟩
  ·exact ⟨s.f0, Or.inr ⟨rfl, e.symm⟩⟩
 have hyN : y ∈ verts N := by
  apply Classical.byContradiction
  intro q
  exact no_adj hne fN lN hxN q ⟨s, fM.1 s hs, hy⟩
 obtain ⟨r, hr, orr⟩ := mem_verts.1 hyN
 have hrs : r ≠ s := fun e => by
  subst e
  exact hxN (mem_verts.2 ⟨r, hr, os⟩)
 have hrM : r ∉ M := fun q => by
  obtain ⟨_, _, _, _, _, _, nv⟩ := fits_erase fM hs
  have hr' : r ∈ M.erase s := (List.mem_erase_of_ne hrs).2 q
  have := nv y (mem_verts.2 ⟨r, hr', orr⟩)
  rcases hy with ⟨a, b⟩ | ⟨a, b⟩
  ·exact this.2.2 b.symm
  ·exact this.2.1 a.symm
 obtain ⟨_, _, _, el, es, nd, nv⟩ := fits_erase fN hr
 have hye : y ∉ verts (N.erase r) := fun q => by
  have := nv y q
  rcases orr with e | e
  ·exact this.2.1 e
  ·exact this.2.2 e
 have sub : ∀ v, v ∈ verts (N.erase r) → v ∈ verts N := fun v hv => verts_mono (fun e he => (es e he).1) hv
 have hxe : x ∉ verts (N.erase r) := fun q => hxN (sub x q)
 have e0 : s.f0 ∉ verts (N.erase r) := by rcases hy with ⟨a, b⟩ | ⟨a, b⟩ <;> (rw [a]; assumption)
 have e1 : s.f1 ∉ verts (N.erase r) := by rcases hy with ⟨a, b⟩ | ⟨a, b⟩ <;> (rw [b]; assumption)
 have hty : t ≠ y := fun e => ht (e ▸ hyN)
 refine ⟨s :: N.erase r, ⟨fun e he => ?_, ?_, by simp⟩, by simp only [List.length_cons]; omega, fun q => ?_, ?_⟩
 ·rcases List.mem_cons.1 he with rfl | he
  ·exact fM.1 e hs
  ·exact fN.1 e (es e he).1
 ·rw [verts_cons, List.nodup_cons, List.nodup_cons]
  refine ⟨fun q => ?_, e1, nd⟩
  rcases List.mem_cons.1 q with q | q
  ·exact hne s (fM.1 s hs) q
  ·exact e0 q
 ·rw [verts_cons] at q
  rcases List.mem_cons.1 q with q | q
  ·rcases hy with ⟨a, b⟩ | ⟨a, b⟩
   ·exact hxt (a ▸ q).symm
   ·exact hty (a ▸ q)
  ·rcases List.mem_cons.1 q with q | q
   ·rcases hy with ⟨a, b⟩ | ⟨a, b⟩
    ·exact hty (b ▸ q)
    ·exact hxt (b ▸ q).symm
   ·exact ht (sub t q)
 ·unfold inter
  have p := ((List.perm_cons_erase hr).filter fun e => decide (e ∈ M)).length_eq
  rw [List.filter_cons_of_neg (by simpa using hrM)] at p
  rw [List.filter_cons_of_pos (by simpa using hs), List.length_cons, p]
theorem gallai {X : List Tie} (hne : ∀ t ∈ X, t.f0 ≠ t.f1) (H : ∀ v, most X [v] = most X []) : ∀ (d : Nat) (M : List Tie) (u w : Int), fits X [] M → M.length = most X [] → u ∉ verts M → w ∉ verts M → u ≠ w → ¬ Wk X d u w
 | 0, M, u, w, _, _, _, _, huw, h => huw h
 | d + 1, M, u, w, fM, lM, hu, hw, huw, ⟨t, htw, a⟩ => by
  by_cases e : t = u
  ·subst e
   exact no_adj hne fM lM hu hw a
  ·have key : ∀ (j : Nat) (N : List Tie), fits X [] N → N.length = most X [] → t ∉ verts N → inter M N + j = M.length → False := by
    intro j
    induction j with
    | zero =>
     intro N fN lN ht hj
     obtain ⟨N', f', l', t', i'⟩ := exchange hne fM lM fN lN hu hw huw ht
      (by apply Classical.byContradiction; intro q; exact gallai hne H d N u t fN lN q ht (fun z => e z.symm) htw)
      (by apply Classical.byContradiction; intro q; exact no_adj hne fN lN ht q a)
     have : inter M N' ≤ N'.length := List.length_filter_le _ _
     omega
    | succ j ih =>
     intro N fN lN ht hj
     obtain ⟨N', f', l', t', i'⟩ := exchange hne fM lM fN lN hu hw huw ht
      (by apply Classical.byContradiction; intro q; exact gallai hne H d N u t fN lN q ht (fun z => e z.symm) htw)
      (by apply Classical.byContradiction; intro q; exact no_adj hne fN lN ht q a)
     exact ih N' f' l' t' (by omega)
   obtain ⟨N, _, fN, lN⟩ := most_ex X [t] hne
   have ht : t ∉ verts N := fun q => fN.2.2 t q (by simp)
   have fN' : fits X [] N := ⟨fN.1, fN.2.1, by simp⟩
   rw [H t] at lN
   have : inter M N ≤ N.length := List.length_filter_le _ _
   exact key (M.length - inter M N) N fN' lN ht (by omega)
end Go.Proofs.YtjkeagcenmmknaaDoor.G
namespace Go.Proofs.YtjkeagcenmmknaaDoor.G
open Go.RowKit Go.Proofs.YtjkeagcenmmknaaDoorW.PrintWords
end Go.Proofs.YtjkeagcenmmknaaDoor.G
namespace Go.Proofs.YtjkeagcenmmknaaDoor.G
open Go.RowKit Go.Proofs.YtjkeagcenmmknaaDoorW.PrintWords
theorem sum_one (x : Int) (p : Int → Bool) : ∀ {l : List Int}, l.Nodup → ((l.filter p).map fun v => if x = v then 1 else 0).sum = if x ∈ l ∧ p x = true then 1 else 0
 | [], _ => by simp
 | a :: l, h => by
  obtain ⟨h1, h2⟩ := List.nodup_cons.1 h
  have ih := sum_one x p h2
  by_cases e : x = a
  ·subst e
   have z : ¬ (x ∈ l ∧ p x = true) := fun q => h1 q.1
   rw [if_neg z] at ih
   cases hp : p x with
   | true => simp [List.filter_cons, hp, ih]
   | false => simp [List.filter_cons, hp, ih]
  ·have e2 : (x ∈ a :: l ∧ p x = true) ↔ (x ∈ l ∧ p x = true) := by simp [e]
   cases hp : p a with
   | true => simp only [List.filter_cons, hp, if_true, List.map_cons, List.sum_cons, if_neg e, ih, e2]; simp
   | false => simp only [List.filter_cons, hp, Bool.false_eq_true, if_false, ih, e2]
end Go.Proofs.YtjkeagcenmmknaaDoor.G
namespace Go.Proofs.YtjkeagcenmmknaaDoor.P
open Go.RowKit Go.Proofs.YtjkeagcenmmknaaDoorW.PrintWords Go.Proofs.YtjkeagcenmmknaaDoor.G
theorem conn_walk {X : List Tie} {u w : Int} (h : Conn X u w) : ∃ d, Wk X d u w := by
 induction h with
 | refl => exact ⟨0, rfl⟩
 | step c t ih =>
  obtain ⟨d, hd⟩ := ih
  refine ⟨d + 1, _, hd, _, t, ?_⟩
  unfold tieOf
  split
  ·exact Or.inl ⟨rfl, rfl⟩
  ·exact Or.inr ⟨rfl, rfl⟩
def left (n : Int) (S : List Int) (M : List Tie) : List Int := (knots n).filter fun k => decide (k ∉ S) && decide (k ∉ verts M)
theorem mem_left {n : Int} {S : List Int} {M : List Tie} {k : Int} : k ∈ left n S M ↔ (0 ≤ k ∧ k < n) ∧ k ∉ S ∧ k ∉ verts M := by
 unfold left
 rw [List.mem_filter, mem_knots]
 simp
theorem even_cov (f : List Int) (p : Int) : ∀ (M : List Tie), (∀ s ∈ M, rd f s.f0 = rd f s.f1) → ((verts M).filter fun k => decide (rd f k = p)).length % 2 = 0
 | [], _ => rfl
 | s :: r, h => by
  have := even_cov f p r (fun x hx => h x (List.mem_cons_of_mem _ hx))
  have e := h s (by simp)
  rw [verts_cons]
  by_cases q : rd f s.f1 = p
  ·rw [List.filter_cons_of_pos (by simp [e, q]), List.filter_cons_of_pos (by simp [q])]
   simp only [List.length_cons]
   omega
  ·rw [List.filter_cons_of_neg (by simp [e, q]), List.filter_cons_of_neg (by simp [q])]
   exact this
theorem sum_labels (n : Int) (f : List Int) : ∀ (U : List Int), (∀ k ∈ U, 0 ≤ rd f k ∧ rd f k < n) → ((knots n).map fun p => ((U.filter fun k => decide (rd f k = p)).length : Int)).sum = (U.length : Int)
 | [], _ => by
  simp only [List.filter_nil, List.length_nil, Int.natCast_zero]
  induction knots n with
  | nil => rfl
  | cons a r ih => simpa using ih
 | u :: r, h => by
  have ih := sum_labels n f r (fun k hk => h k (List.mem_cons_of_mem _ hk))
  obtain ⟨h0, h1⟩ := h u (by simp)
  have one := sum_one (rd f u) (fun _ => true) (knots_nodup n)
  rw [if_pos ⟨mem_knots.2 ⟨h0, h1⟩, rfl⟩] at one
  have all : (knots n).filter (fun _ => true) = knots n := List.filter_eq_self.2 (fun _ _ => rfl)
  rw [all] at one
  have split : ∀ l : List Int, (l.map fun p => (((u :: r).filter fun k => decide (rd f k = p)).length : Int)).sum = (l.map fun p => ((r.filter fun k => decide (rd f k = p)).length : Int)).sum + ((l.map fun v => if rd f u = v then 1 else 0).sum : Int) := by
   intro l
   induction l with
   | nil => rfl
   | cons a l il =>
    simp only [List.map_cons, List.sum_cons]
    rw [il]
    by_cases q : rd f u = a
    ·rw [List.filter_cons_of_pos (by simp [q]), if_pos q]
     simp only [List.length_cons]
     omega
    ·rw [List.filter_cons_of_neg (by simp [q]), if_neg q]
     omega
  rw [split, ih]
  simp only [List.length_cons]
  have : ((knots n).map fun v => if rd f u = v then (1 : Int) else 0).sum = 1 := by
   have cast : ∀ l : List Int, (l.map fun v => if rd f u = v then (1 : Int) else 0).sum = (((l.map fun v => if rd f u = v then (1 : Nat) else 0).sum : Nat) : Int) := by
    intro l
    induction l with
    | nil => rfl
    | cons a l il =>
     simp only [List.map_cons, List.sum_cons]
     rw [il]
     split <;> simp
   first
    | exact one
    | (rw [cast]; rw [one]; rfl)
  rw [this]
  omega
theorem tight (n : Int) (E : List S51) (hE : ok n E) (b : Nat) (hb : b < 256) (H : ∀ v, 0 ≤ v → v < n → v ∉ selTo b n → most (woL E (selTo b n)) [v] = most (woL E (selTo b n)) []) :
  ∃ o, shows n E (selTo b n) o ∧ n + ((selTo b n).length : Int) - o = 2 * (most (woL E (selTo b n)) [] : Int) + 2 * ((selTo b n).length : Int) := by
 obtain ⟨X, hX⟩ : ∃ X, X = woL E (selTo b n) := ⟨_, rfl⟩
 have okX : ok n X := by rw [hX]; exact ok_woL _ hE
 have hne := ok_ne okX
 rw [← hX] at H ⊢
 obtain ⟨S, hS⟩ : ∃ S, S = selTo b n := ⟨_, rfl⟩
 have memS : ∀ v, v ∈ S → 0 ≤ v ∧ v < n := fun v hv => by rw [hS] at hv; exact (mem_selTo.1 hv).1
 have ndS : S.Nodup := by rw [hS]; exact (knots_nodup n).sublist List.filter_sublist
 have XS : ∀ t ∈ X, t.f0 ∉ S ∧ t.f1 ∉ S := fun t ht => by rw [hX, mem_woL] at ht; rw [hS]; exact ht.2
 rw [← hS] at H ⊢
 have HH : ∀ v, most X [v] = most X [] := fun v => by
  by_cases c : v ∈ verts X
  ·obtain ⟨c0, c1⟩ := verts_in okX c
   refine H v c0 c1 (fun q => ?_)
   obtain ⟨t, ht, o⟩ := mem_verts.1 c
   rcases o with rfl | rfl
   ·exact (XS t ht).1 q
   ·exact (XS t ht).2 q
  ·obtain ⟨L, _, fL, eL⟩ := most_ex X [] hne
   have := most_le X [v] L ⟨fL.1, fL.2.1, fun x hx o => by
    obtain rfl := List.mem_singleton.1 o
    exact c (verts_mono fL.1 hx)⟩
   have := (most_take hne v []).1
   omega
 obtain ⟨M, _, fM, lM⟩ := most_ex X [] hne
 obtain ⟨f, _, pf⟩ := parts_ev n X okX
 have pf' : Parts n (woL E S) f := by rw [hS, ← hX]; exact pf
 have low : ∀ v, 0 ≤ v → v < n → 0 ≤ rd f v ∧ rd f v < n := fun v h0 h1 => by have := pf.low v h0 h1; omega
 have Mlab : ∀ s ∈ M, rd f s.f0 = rd f s.f1 := fun s hs => by
  have hs' := fM.1 s hs
  have r := okX.2.2.1 s hs'
  unfold inr at r
  exact pf.same _ _ (by omega) (by omega) (by omega) (by omega) (Conn.tie hs' r.2.1)
 have covS : ∀ v ∈ verts M, v ∉ S := fun v hv q => by
  obtain ⟨t, ht, o⟩ := mem_verts.1 hv
  rcases o with rfl | rfl
  ·exact (XS t (fM.1 t ht)).1 q
  ·exact (XS t (fM.1 t ht)).2 q
 have covK : ∀ v ∈ verts M, 0 ≤ v ∧ v < n := fun v hv => verts_in okX (verts_mono fM.1 hv)
 have ndL : (left n S M).Nodup := (knots_nodup n).sublist List.filter_sublist
 refine ⟨oddN (tally n f S n), ⟨f, pf', rfl⟩, ?_⟩
 -- each label: odd just if one knot of it stays alone
 have each : ∀ p, 0 ≤ p → p < n → (((knots n).filter fun k => decide (k ∉ S) && decide (rd f k = p)).length : Int) % 2 = (((left n S M).filter fun k => decide (rd f k = p)).length : Int) := by
  intro p p0 p1
  have le1 : ((left n S M).filter fun k => decide (rd f k = p)).length ≤ 1 := by
   apply Classical.byContradiction
   intro q
   match hl : (left n S M).filter fun k => decide (rd f k = p) with
   | [] => rw [hl] at q; simp at q
   | [x] => rw [hl] at q; simp at q
   | x :: y :: r =>
    have nd := ndL.sublist (List.filter_sublist (p := fun k => decide (rd f k = p)))
    rw [hl] at nd
    have hx : x ∈ (left n S M).filter fun k => decide (rd f k = p) := by rw [hl]; simp
    have hy : y ∈ (left n S M).filter fun k => decide (rd f k = p) := by rw [hl]; simp
    obtain ⟨hx1, hx2⟩ := List.mem_filter.1 hx
    obtain ⟨hy1, hy2⟩ := List.mem_filter.1 hy
    simp only [decide_eq_true_eq] at hx2 hy2
    obtain ⟨a1, a2, a3⟩ := mem_left.1 hx1
    obtain ⟨b1, b2, b3⟩ := mem_left.1 hy1
    have xy : x ≠ y := fun e => (List.nodup_cons.1 nd).1 (by rw [e]; simp)
    have cn : Conn X x y := (pf.iff a1 b1).1 (by rw [hx2, hy2])
    obtain ⟨d, hd⟩ := conn_walk cn
    exact gallai hne HH d M x y fM lM a3 b3 xy hd
  have cnt : ((knots n).filter fun k => decide (k ∉ S) && decide (rd f k = p)).length = ((left n S M).filter fun k => decide (rd f k = p)).length + ((verts M).filter fun k => decide (rd f k = p)).length := by
   rw [← List.length_append]
   refine nodup_len_eq ((knots_nodup n).sublist List.filter_sublist) ?_ (fun v => ?_)
   ·rw [List.nodup_append]
    refine ⟨ndL.sublist List.filter_sublist, fM.2.1.sublist List.filter_sublist, fun a ha c hc e => ?_⟩
    subst e
    exact (mem_left.1 (List.mem_filter.1 ha).1).2.2 (List.mem_filter.1 hc).1
   ·rw [List.mem_append, List.mem_filter, List.mem_filter, List.mem_filter, mem_left, mem_knots]
    simp only [Bool.and_eq_true, decide_eq_true_eq]
    constructor
    ·rintro ⟨k1, k2, k3⟩
     by_cases c : v ∈ verts M
     ·exact Or.inr ⟨c, k3⟩
     ·exact Or.inl ⟨⟨k1, k2, c⟩, k3⟩
    ·rintro (⟨⟨k1, k2, _⟩, k3⟩ | ⟨c, k3⟩)
     ·exact ⟨k1, k2, k3⟩
     ·exact ⟨covK v c, covS v c, k3⟩
  have ev := even_cov f p M Mlab
  omega
 have sum : oddN (tally n f S n) = ((left n S M).length : Int) := by
  rw [← sum_labels n f (left n S M) (fun k hk => low k (mem_left.1 hk).1.1 (mem_left.1 hk).1.2)]
  unfold oddN tally
  rw [List.map_map]
  congr 1
  refine List.map_congr_left (fun p hp => ?_)
  have := mem_knots.1 hp
  exact each p this.1 this.2
 have tot : (knots n).length = (left n S M).length + (S.length + (verts M).length) := by
  rw [← List.length_append, ← List.length_append]
  refine nodup_len_eq (knots_nodup n) ?_ (fun v => ?_)
  ·rw [List.nodup_append, List.nodup_append]
   refine ⟨ndL, ⟨ndS, fM.2.1, fun a ha c hc e => ?_⟩, fun a ha c hc e => ?_⟩
   ·subst e; exact covS a hc ha
   ·subst e
    rcases List.mem_append.1 hc with q | q
    ·exact (mem_left.1 ha).2.1 q
    ·exact (mem_left.1 ha).2.2 q
  ·rw [List.mem_append, List.mem_append, mem_left, mem_knots]
   constructor
   ·intro k1
    by_cases c : v ∈ S
    ·exact Or.inr (Or.inl c)
    ·by_cases c2 : v ∈ verts M
     ·exact Or.inr (Or.inr c2)
     ·exact Or.inl ⟨k1, c, c2⟩
   ·rintro (⟨k1, _⟩ | c | c)
    ·exact k1
    ·exact memS v c
    ·exact covK v c
 rw [knots_len, verts_len, lM] at tot
 have n0 := hE.1
 rw [sum]
 omega
theorem sel_more {n : Int} {b : Nat} {v : Int} (h8 : n ≤ 8) (hb : (b : Int) < 2 ^ n.toNat) (v0 : 0 ≤ v) (v1 : v < n) (hv : v ∉ selTo b n) :
  ∃ b' : Nat, (b' : Int) < 2 ^ n.toNat ∧ (∀ x, x ∈ selTo b' n ↔ x = v ∨ x ∈ selTo b n) ∧ (selTo b' n).length = (selTo b n).length + 1 := by
 have lt : b < 2 ^ n.toNat := by
  have : ((2 : Int) ^ n.toNat) = ((2 ^ n.toNat : Nat) : Int) := by simp
  rw [this] at hb
  omega
 have mem : ∀ x, x ∈ selTo (b ||| 2 ^ v.toNat) n ↔ x = v ∨ x ∈ selTo b n := fun x => by
  rw [mem_selTo, mem_selTo, Nat.testBit_or, Nat.testBit_two_pow]
  simp only [Bool.or_eq_true, decide_eq_true_eq]
  constructor
  ·rintro ⟨k, o | o⟩
   ·exact Or.inr ⟨k, o⟩
   ·exact Or.inl (by omega)
  ·rintro (rfl | ⟨k, o⟩)
   ·exact ⟨⟨v0, v1⟩, Or.inr rfl⟩
   ·exact ⟨k, Or.inl o⟩
 refine ⟨b ||| 2 ^ v.toNat, ?_, mem, ?_⟩
 ·have : b ||| 2 ^ v.toNat < 2 ^ n.toNat := Nat.or_lt_two_pow lt (Nat.pow_lt_pow_right (by decide) (by omega))
  have e : ((2 : Int) ^ n.toNat) = ((2 ^ n.toNat : Nat) : Int) := by simp
  rw [e]
  omega
 ·have : (selTo (b ||| 2 ^ v.toNat) n).length = (v :: selTo b n).length := by
   refine nodup_len_eq ((knots_nodup n).sublist List.filter_sublist) ?_ (fun x => ?_)
   ·rw [List.nodup_cons]
    exact ⟨hv, (knots_nodup n).sublist List.filter_sublist⟩
   ·rw [mem x, List.mem_cons]
  simpa using this
theorem most_sel {E : List Tie} (hne : ∀ t ∈ E, t.f0 ≠ t.f1) {S S' : List Int} {v : Int} (h : ∀ x, x ∈ S' ↔ x = v ∨ x ∈ S) : most (woL E S') [] = most (woL E S) [v] := by
 have all : ∀ (S : List Int) (vs : List Int) (E : List Tie), (∀ t ∈ E, t.f0 ≠ t.f1) → most (woL E S) vs = most E (S ++ vs) := by
  intro S
  induction S with
  | nil => intro vs E _; rfl
  | cons a r ih =>
   intro vs E hE
   show most (woL (wo E a) r) vs = _
   rw [ih vs (wo E a) (fun t ht => hE t (mem_wo.1 ht).1), most_wo hE]
   rfl
 rw [all S' [] E hne, all S [v] E hne]
 refine most_perm hne (fun x => ?_)
 rw [List.append_nil, h x, List.mem_append, List.mem_singleton]
 exact Or.comm
theorem berge (n : Int) (E : List S51) (hE : ok n E) : ∀ (m b : Nat), n.toNat - (selTo b n).length = m → (b : Int) < 2 ^ n.toNat →
  ∃ b' : Nat, (b' : Int) < 2 ^ n.toNat ∧ ∃ o, shows n E (selTo b' n) o ∧ n + ((selTo b' n).length : Int) - o = 2 * (most (woL E (selTo b n)) [] : Int) + 2 * ((selTo b n).length : Int) := by
 intro m
 have n0 := hE.1
 have n8 := hE.2.1
 have hne : ∀ b, ∀ t ∈ woL E (selTo b n), t.f0 ≠ t.f1 := fun b => ok_ne (ok_woL _ hE)
 have p256 : ((2 : Int) ^ n.toNat) ≤ 256 := by
  have := (shl_facts n.toNat (by omega)).2
  have e : ((2 : Int) ^ n.toNat) = ((2 ^ n.toNat : Nat) : Int) := by simp
  rw [e]
  omega
 induction m with
 | zero =>
  intro b hm hb
  have sl := selTo_len b n
  refine ⟨b, hb, tight n E hE b (by omega) (fun v v0 v1 hv => ?_)⟩
  exfalso
  have nd : (v :: selTo b n).Nodup := by
   rw [List.nodup_cons]
   exact ⟨hv, (knots_nodup n).sublist List.filter_sublist⟩
  have := nodup_len_le nd (m := knots n) (fun x hx => by
   rcases List.mem_cons.1 hx with rfl | hx
   ·exact mem_knots.2 ⟨v0, v1⟩
   ·exact mem_knots.2 (mem_selTo.1 hx).1)
  rw [knots_len, List.length_cons] at this
  omega
 | succ m ih =>
  intro b hm hb
  by_cases H : ∀ v, 0 ≤ v → v < n → v ∉ selTo b n → most (woL E (selTo b n)) [v] = most (woL E (selTo b n)) []
  ·exact ⟨b, hb, tight n E hE b (by omega) H⟩
  ·obtain ⟨v, v0, v1, hv, hn⟩ : ∃ v, 0 ≤ v ∧ v < n ∧ v ∉ selTo b n ∧ most (woL E (selTo b n)) [v] ≠ most (woL E (selTo b n)) [] := by
    apply Classical.byContradiction
    intro q
    apply H
    intro v v0 v1 hv
    apply Classical.byContradiction
    intro q2
    exact q ⟨v, v0, v1, hv, q2⟩
   obtain ⟨b1, h1, h2, h3⟩ := sel_more n8 hb v0 v1 hv
   obtain ⟨b', h4, o, h5, h6⟩ := ih b1 (by omega) h1
   have e := most_sel (ok_ne hE) h2
   have tk := most_take (hne b) v []
   refine ⟨b', h4, o, h5, ?_⟩
   rw [e] at h6
   omega
theorem told_shows (n : Int) (E : List S51) (hE : ok n E) {r : List Int} (h : told n E (most E [] : Int) 0 r) : ∃ b, r = selTo b n ∧ ∃ o, shows n E r o ∧ n + (r.length : Int) - o = 2 * (most E [] : Int) := by
 rcases h with ⟨b, _, e, o, h1, h2⟩ | ⟨_, h⟩
 ·exact ⟨b, e, o, h1, h2⟩
 ·exfalso
  have p1 : (1 : Int) ≤ 2 ^ n.toNat := by
   have e : ((2 : Int) ^ n.toNat) = ((2 ^ n.toNat : Nat) : Int) := by simp
   rw [e]
   have : 0 < 2 ^ n.toNat := Nat.pow_pos (by decide)
   omega
  have z : selTo 0 n = [] := by
   unfold selTo
   rw [List.filter_eq_nil_iff]
   intro v _
   simp
  obtain ⟨b', k1, o, k2, k3⟩ := berge n E hE (n.toNat - (selTo 0 n).length) 0 rfl (by omega)
  rw [z] at k3
  exact h b' (by omega) k1 o k2 (by rw [k3]; simp [woL])
end Go.Proofs.YtjkeagcenmmknaaDoor.P
namespace Go.Proofs.YtjkeagcenmmknaaDoor.P
open Go.RowKit Go.Proofs.YtjkeagcenmmknaaDoorW.PrintWords Go.Proofs.YtjkeagcenmmknaaDoor.G
theorem loIn_l0 (a : Int) : ∀ (suf p : List Int), ((p ++ suf).length : Int) < big → a ∉ p → Ev (fun k => laws_loIn.l0 k (p ++ suf) a (p.length : Int)) (decide (a ∈ p ++ suf)) := by
 intro suf
 induction suf with
 | nil =>
  intro p hb hp
  refine Ev.step (fun k => by simp only [laws_loIn.l0, nlt_end, if_false] <;> exact rfl) (Ev.val ?_)
  rw [decide_eq_false (by simpa using hp)]
 | cons t suf ih =>
  intro p hb hp
  have hl : (p.length : Int) < big := len_mid hb
  by_cases c : t = a
  ·refine Ev.step (fun k => by simp only [laws_loIn.l0, lt_mid, nn, if_true, rd_mid, if_pos c] <;> exact rfl) (Ev.val ?_)
   rw [decide_eq_true (by simp [c])]
  ·refine Ev.step (fun k => by simp only [laws_loIn.l0, lt_mid, nn, if_true, rd_mid, if_neg c, w_succ (t := t) hl] <;> exact rfl) ?_
   rw [app_one p t suf]
   exact ih (p ++ [t]) (by rw [← app_one]; exact hb) (fun q => by
    rcases List.mem_append.1 q with q | q
    ·exact hp q
    ·exact c (List.mem_singleton.1 q).symm)
theorem loIn_ev (S : List Int) (a : Int) (hb : (S.length : Int) < big) : Ev (fun k => laws_loIn.f k S a) (decide (a ∈ S)) := by
 unfold laws_loIn.f
 exact loIn_l0 a S [] hb (by simp)
theorem loOdd_l2 : ∀ (suf p : List Int), ((p ++ suf).length : Int) ≤ 100 → (∀ x ∈ p ++ suf, 0 ≤ x) → Ev (fun k => laws_loOdd.l2 k (p ++ suf) (oddN p) (p.length : Int)) (oddN (p ++ suf)) := by
 intro suf
 induction suf with
 | nil =>
  intro p hb h0
  rw [List.append_nil]
  have c : ¬ (p.length : Int) < (p.length : Int) := by omega
  exact Ev.step (fun k => by simp only [laws_loOdd.l2, if_neg c] <;> exact rfl) (Ev.val rfl)
 | cons x suf ih =>
  intro p hb h0
  have hp : (p.length : Int) < big := by rw [List.length_append] at hb; unfold big; omega
  have tm : Int.tmod x 2 = x % 2 := Int.tmod_eq_emod_of_nonneg (h0 x (by simp))
  have ob := oddN_bound p
  have w : wrap64 (oddN p + x % 2) = oddN (p ++ [x]) := by rw [oddN_app]; exact w64 (by omega) (by rw [List.length_append] at hb; omega)
  refine Ev.step (fun k => by simp only [laws_loOdd.l2, lt_mid, nn, if_true, rd_mid, tm, w, w_succ (t := x) hp] <;> exact rfl) ?_
  rw [app_one p x suf]
  exact ih (p ++ [x]) (by rw [← app_one]; exact hb) (by rw [← app_one]; exact h0)
theorem loOdd_l1 (n : Int) (f S : List Int) (h0 : 0 ≤ n) (h8 : n ≤ 8) (hf : (f.length : Int) = n) (hr : ∀ v, 0 ≤ v → v < n → 0 ≤ rd f v ∧ rd f v < n) (hS : (S.length : Int) < big) :
  ∀ (d : Nat) (j : Int), 0 ≤ j → j + d = n → Ev (fun k => laws_loOdd.l1 k S f (tally n f S j) j) (oddN (tally n f S n)) := by
 intro d
 induction d with
 | zero =>
  intro j j0 hj
  obtain rfl : j = n := by omega
  have c : ¬ j < (f.length : Int) := by omega
  refine Ev.step (fun k => by simp only [laws_loOdd.l1, if_neg c] <;> exact rfl) ?_
  exact loOdd_l2 (tally j f S j) [] (by rw [List.nil_append, tally_len]; omega) (fun x hx => (tally_nonneg hx).1)
 | succ d ih =>
  intro j j0 hj
  have c : j < (f.length : Int) := by omega
  have w : wrap64 (j + 1) = j + 1 := w64 (by omega) (by omega)
  have next := ih (j + 1) (by omega) (by omega)
  refine Ev.step (fun k => by simp only [laws_loOdd.l1, if_pos c, w] <;> exact rfl) ?_
  refine Ev.bind (loIn_ev S j hS) ?_
  by_cases m : j ∈ S
  ·simp only [decide_eq_true m, if_true]
   rw [tally_skip j0 m] at next
   exact next
  ·obtain ⟨r0, r1⟩ := hr j j0 (by omega)
   have tl : (rd f j) < ((tally n f S j).length : Int) := by rw [tally_len]; omega
   have wt : wrap64 (rd (tally n f S j) (rd f j) + 1) = rd (tally n f S j) (rd f j) + 1 := by
    rw [tally_rd f S j r0 r1]
    have : ((knots j).filter fun k => decide (k ∉ S) && decide (rd f k = rd f j)).length ≤ (knots j).length := List.length_filter_le _ _
    rw [knots_len] at this
    exact w64 (by omega) (by omega)
   simp only [decide_eq_false m, Bool.false_eq_true, if_false, if_pos j0, if_pos r0, if_pos tl, wt]
   rw [tally_step j0 m r0 r1]
   exact next
theorem loOdd_l0 (n : Int) (E : List S51) (S : List Int) (hE : ok n E) (hS : ∀ v ∈ S, 0 ≤ v ∧ v < n) (hSl : (S.length : Int) < big) : ∀ (suf p : List Int), S = p ++ suf →
  ∃ o, Ev (fun k => laws_loOdd.l0 k S (p.length : Int) n (woL E p)) o ∧ shows n E S o := by
 intro suf
 have h0 := hE.1
 have h8 := hE.2.1
 induction suf with
 | nil =>
  intro p he
  rw [List.append_nil] at he
  subst he
  have okw := ok_woL S hE
  obtain ⟨f, f1, f2⟩ := parts_ev n (woL E S) okw
  have fl := f2.len
  have okl := ok_len okw
  have c : ¬ (S.length : Int) < (S.length : Int) := by omega
  have z : n.toNat ≤ 35184372088832 := by omega
  have z0 : 0 ≤ (f.length : Int) := by omega
  have fn : ((f.length : Int)).toNat = n.toNat := by omega
  refine ⟨_, Ev.step (fun k => by simp only [laws_loOdd.l0, if_neg c] <;> exact rfl) ?_, f, f2, rfl⟩
  have wp : Ev (fun k => impl_WayParts.f k n (woL E S)) f := by
   unfold impl_WayParts.f
   refine Ev.bind (implOk n (woL E S) (by unfold big; omega)) ?_
   simp only [decide_eq_true okw, if_true]
   exact Ev.bind f1 (Ev.val rfl)
  refine Ev.bind wp ?_
  simp only [if_pos z0, if_pos z, fn]
  rw [← tally_zero n f S]
  exact loOdd_l1 n f S h0 h8 f2.len (fun v v0 v1 => by have := f2.low v v0 v1; omega) hSl n.toNat 0 (by omega) (by omega)
 | cons v suf ih =>
  intro p he
  obtain ⟨v0, v1⟩ := hS v (by rw [he]; simp)
  have c : (p.length : Int) < (S.length : Int) := by rw [he]; exact lt_mid p v suf
  have r : rd S (p.length : Int) = v := by rw [he]; exact rd_mid p v suf
  have w : wrap64 ((p.length : Int) + 1) = ((p ++ [v]).length : Int) := w_succ (by omega)
  obtain ⟨o, o1, o2⟩ := ih (p ++ [v]) (by rw [he]; simp)
  refine ⟨o, Ev.step (fun k => by simp only [laws_loOdd.l0, if_pos c, nn, if_true, r, w] <;> exact rfl) ?_, o2⟩
  refine Ev.bind (netWithout_ev n v (woL E p) (ok_woL p hE) v0 v1) ?_
  rw [woL_last] at o1
  exact o1
theorem loOdd_ev (n : Int) (E : List S51) (S : List Int) (hE : ok n E) (hS : ∀ v ∈ S, 0 ≤ v ∧ v < n) (hSl : (S.length : Int) < big) : ∃ o, Ev (fun k => laws_loOdd.f k n E S) o ∧ shows n E S o := by
 obtain ⟨o, o1, o2⟩ := loOdd_l0 n E S hE hS hSl S [] rfl
 exact ⟨o, by unfold laws_loOdd.f; exact o1, o2⟩
end Go.Proofs.YtjkeagcenmmknaaDoor.P
namespace Go.Proofs.YtjkeagcenmmknaaDoor.P
open Go.RowKit Go.Proofs.YtjkeagcenmmknaaDoorW.PrintWords Go.Proofs.YtjkeagcenmmknaaDoor.G
theorem top_same (n z : Int) (E L : List S51) (hE : (E.length : Int) < big) (hL : (L.length : Int) < big) (ob : Bool) (hob : ob = decide (pairOk n E L)) (hz : z = sizeOf n E) :
  Ev (fun k => laws_FnPairTop.j0 k L ob z true n E) true := by
 refine Ev.step (fun k => by simp only [laws_FnPairTop.j0, if_true] <;> exact rfl) ?_
 refine Ev.bind (pairSpec n E L hE hL) ?_
 rw [hob]
 simp only [beq_self_eq_true, if_true]
 refine Ev.bind (sizeSpec n E hE) ?_
 rw [hz]
 exact Ev.val (by simp)
theorem top_main (n : Int) (E L : List S51) (h : ok n E) (ob : Bool) (hob : ob = decide (pairOk n E L)) : Ev (fun k => laws_FnPairTop.j0 k L ob (most E [] : Int) false n E) true := by
 have n0 := h.1
 have n8 := h.2.1
 have h64 := ok_len h
 have ml := most_len E []
 obtain ⟨r, r1, r2, r3, r4⟩ := why_both n E (by unfold big; omega)
 obtain ⟨b, e, o, o1, o2⟩ := told_shows n E h (r4 h)
 have rS : ∀ v ∈ r, 0 ≤ v ∧ v < n := fun v hv => by rw [e] at hv; exact (mem_selTo.1 hv).1
 obtain ⟨o', p1, p2⟩ := loOdd_ev n E r h rS (by unfold big; omega)
 have eo : o' = o := shows_unique p2 o1
 rw [eo] at p1
 have w1 : wrap64 (2 * (most E [] : Int)) = 2 * (most E [] : Int) := w64 (by omega) (by omega)
 have w2 : wrap64 (n + (r.length : Int)) = n + (r.length : Int) := w64 (by omega) (by omega)
 have w3 : wrap64 (n + (r.length : Int) - o) = 2 * (most E [] : Int) := by rw [o2]; exact w1
 refine Ev.step (fun k => by simp only [laws_FnPairTop.j0, Bool.false_eq_true, if_false] <;> exact rfl) ?_
 refine Ev.bind r1 ?_
 by_cases c : pairOk n E L
 ·have ob1 : ob = true := by rw [hob, decide_eq_true c]
  have le := most_le E [] L ⟨c.2.1, c.2.2.2, by simp⟩
  have le' : (L.length : Int) ≤ (most E [] : Int) := by omega
  simp only [ob1, if_true, if_pos le']
  refine Ev.bind p1 ?_
  simp only [w1, w2, w3]
  exact Ev.val (by simp)
 ·have ob1 : ob = false := by rw [hob, decide_eq_false c]
  simp only [ob1, Bool.false_eq_true, if_false]
  refine Ev.bind p1 ?_
  simp only [w1, w2, w3]
  exact Ev.val (by simp)
theorem FnPairTop_pure (l : List Int) (_hl : l.length ≤ 9223372036854775807) (h : ∀ x ∈ l, 0 ≤ x ∧ x ≤ 255) : ∃ k, laws_FnPairTop.f k l = some true := by
 refine Ev.rounds ?_
 unfold laws_FnPairTop.f
 by_cases d : (l.length : Int) > 1048576
 ·simp only [if_pos d]; exact Ev.val rfl
 simp only [if_neg d]
 obtain ⟨n, E, L, d1, hE, hL⟩ := drawPairOk_ev l h
 have hEb : (E.length : Int) < big := by unfold big; omega
 have hLb : (L.length : Int) < big := by unfold big; omega
 have s := pairSpec n E L hEb hLb
 have i := pairImpl n E L hEb (by omega)
 have bb : (decide (pairOk n E L) != decide (pairOk n E L)) = false := by simp
 refine Ev.bind d1 (Ev.bind i (Ev.bind (sizeImpl n E hEb) (Ev.bind s ?_)))
 simp only [bb, Bool.false_eq_true, if_false]
 refine Ev.bind (sizeSpec n E hEb) ?_
 simp only [if_true]
 refine Ev.bind (specOk n E hEb) ?_
 by_cases c : ok n E
 ·have hs : sizeOf n E = (most E [] : Int) := by unfold sizeOf; rw [if_pos c]
  have nb : (!decide (ok n E)) = false := by rw [decide_eq_true c]; rfl
  rw [nb, hs]
  exact top_main n E L c _ rfl
 ·have nb : (!decide (ok n E)) = true := by rw [decide_eq_false c]; rfl
  rw [nb]
  exact top_same n _ E L hEb hLb _ rfl rfl
end Go.Proofs.YtjkeagcenmmknaaDoor.P
namespace Go.Proofs.YtjkeagcenmmknaaDoor.P
open Go.RowKit Go.Proofs.YtjkeagcenmmknaaDoorW.PrintWords Go.ChangeShapes Go.WideShapes Go.Deep
theorem read_ints {H : Type} {enc : TypeId × Value → H} {Pr : Program} {t e : TypeId} {k : IntKind} (ht : Pr.underlying t = some (.slice e)) (he : Pr.underlying e = some (.int k)) (hc : Pr.cellsOf e = 1) {w : World} {base : Nat} {spare : Nat → Bool} {held : Bool} {fuel : Nat} {cs : List Value} {x : DataW H × List MemPlace}
  (h : DataW.trod enc Pr w base spare held fuel t cs = some x) :
  ∃ (A : Option Addr) (c : Nat) (l : List Int), cs = [.slice A l.length c] ∧ l.length ≤ c ∧ Kd.C (Kd.int k) w A l.length l ∧ ∀ n ∈ l, (Lit.int k n).wf = true := by
 rcases open_slice1 ht hc h with ⟨rfl, _⟩ | ⟨a, len, cap, m, n, V, D, Pl, rfl, hb, hl, hm, hmm, hx, hi⟩
 ·exact ⟨none, 0, [], rfl, Nat.le_refl _, ⟨rfl, by simp, fun h => by simp at h⟩, fun t ht => by simp at ht⟩
 ·have hlm : len ≤ m := by rw [hmm]; split <;> omega
  have key : ∀ i, i < len → ∃ z : Int, w.cell? (a.add i) = some (.int k z) ∧ (Lit.int k z).wf = true := by
   intro i hil
   obtain ⟨h0, r0⟩ := hi i (by omega)
   obtain ⟨n0, e0, _, w0⟩ := DataW.trod_int he r0
   simp only [List.cons.injEq, and_true] at e0
   exact ⟨n0, by rw [h0, e0], w0⟩
  obtain ⟨f, hf⟩ := choose_lt key
  refine ⟨some a, cap, (List.range len).map f, by simp, by simpa using hl, ⟨by simp, ?_, fun _ => ⟨a, rfl, fun j p hj => ?_⟩⟩, fun t ht => ?_⟩
  ·unfold maxLen at hm; simp; omega
  ·obtain ⟨hj1, hj2⟩ := List.getElem?_eq_some_iff.1 hj
   simp at hj1 hj2
   subst hj2
   refine ⟨[.int k (f j)], rfl, rfl, fun i u hu => ?_⟩
   match i, hu with
   | 0, hu =>
    simp at hu; subst hu
    have : j * (Kd.int k).sz + 0 = j := Nat.mul_one j
    rw [this]
    exact (hf j hj1).1
  ·simp at ht
   obtain ⟨i, hil, rfl⟩ := ht
   exact (hf i hil).2
end Go.Proofs.YtjkeagcenmmknaaDoor.P
namespace Go.Proofs.YtjkeagcenmmknaaDoor.P
open Go.RowKit Go.ChangeShapes Go.WideShapes Go.ChangeAt
abbrev laidAll : List (String × DataW Unit) := [("math/bits.deBruijn32tab", Rows.laid_math_bits_deBruijn32tab), ("math/bits.deBruijn64tab", Rows.laid_math_bits_deBruijn64tab)]
theorem gNamed : Tryd.prog.globalNamed "math/bits.deBruijn64tab" = some 1 := by kernel_rfl
theorem gType : (Tryd.prog.globals[1]?).map (·.type) = some 112 := by kernel_rfl
theorem lay_of {W : World} (h : laidMetH Tryd.prog laidAll W) : TabAt 1 Lib.deBruijn64tab W := by
 rw [MakeChecks.laidMetH_plain _ _ _ (by kernel_rfl)] at h
 have hT : Lib.TabIs Tryd.prog W "math/bits.deBruijn64tab" .u8 (Lib.deBruijn64tab.map Int.ofNat) :=
  Lib.tabIs_of_head gNamed gType Tryd.underlying112 Tryd.underlying5 (by kernel_rfl) (by kernel_rfl) (laidMet.tail h)
 intro j hj
 have := hT.cell gNamed j (by simpa using hj)
 rw [this]
 congr 2
 simp [List.getD_eq_getElem?_getD, List.getElem?_map]
 cases Lib.deBruijn64tab[j]? <;> rfl
theorem door_met (os : Os) (args : Array Value) : laidMetH Tryd.prog laidAll ((World.doorLaid Tryd.prog 19 os).forCall (fun _ _ => 0) ⟨#[], args, []⟩).memory :=
 laidMetH_of_parts3 (fuel := 8) (laidMet_of_run' 8 (by kernel_rfl) (by kernel_rfl)) (by kernel_rfl) (by kernel_rfl)
end Go.Proofs.YtjkeagcenmmknaaDoor.P
