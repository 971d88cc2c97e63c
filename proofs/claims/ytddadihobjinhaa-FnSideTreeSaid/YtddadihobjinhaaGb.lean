/- Small tools for the printed functions: rounds, reads by place, bounds; and when a net is valid. -/
import Derived.Test.YtddadihobjinhaaGa
namespace Go.Proofs.Ytddadihobjinhaa.G
set_option linter.unusedSimpArgs false
set_option linter.unusedVariables false
open Go.RowKit Go.Proofs.YtddadihobjinhaaW.PrintWords

/-- A list is not longer than any that this claim speaks of. -/
abbrev big : Int := 4611686018427387904

theorem w64 {x : Int} (h0 : -9223372036854775808 ≤ x) (h1 : x ≤ 9223372036854775807) : wrap64 x = x := by
  unfold wrap64
  omega
theorem lt_mid {α : Type} (pre : List α) (t : α) (suf : List α) : (pre.length : Int) < ((pre ++ t :: suf).length : Int) := by
  simp; omega
theorem nlt_end {α : Type} (pre : List α) : ¬ (pre.length : Int) < ((pre ++ []).length : Int) := by
  simp
theorem nn (n : Nat) : 0 ≤ (n : Int) := Int.natCast_nonneg n
theorem nn0 (n : Nat) : (0 ≤ (n : Int)) = True := eq_true (nn n)
theorem app_one {α : Type} (pre : List α) (t : α) (suf : List α) : pre ++ t :: suf = (pre ++ [t]) ++ suf := by simp
theorem w_succ {α : Type} {pre : List α} {t : α} (h : (pre.length : Int) < big) : wrap64 ((pre.length : Int) + 1) = ((pre ++ [t]).length : Int) := by
  rw [w64 (by omega) (by unfold big at h; omega)]; simp
theorem getD_mid {α : Type} (pre : List α) (t : α) (suf : List α) (d : α) : (pre ++ t :: suf).getD ((pre.length : Int)).toNat d = t := by
  simp [List.getD]
theorem rd_mid (pre : List Int) (t : Int) (suf : List Int) : rd (pre ++ t :: suf) (pre.length : Int) = t := by
  unfold rd; exact getD_mid pre t suf 0
theorem rdOf_mid {α : Type} (d : α) (pre : List α) (t : α) (suf : List α) : rdOf d (pre ++ t :: suf) (pre.length : Int) = t := by
  unfold rdOf; exact getD_mid pre t suf d
theorem len_mid {α : Type} {pre : List α} {t : α} {suf : List α} (h : ((pre ++ t :: suf).length : Int) < big) : (pre.length : Int) < big := by
  simp at h; unfold big at *; omega
theorem len_app {α : Type} {pre : List α} {t : α} {suf : List α} (h : ((pre ++ t :: suf).length : Int) < big) : (((pre ++ [t]) ++ suf).length : Int) < big := by
  rw [← app_one]; exact h

/-- What comes of a call without rounds. -/
theorem Ev.const {α β : Type} {a : Option α} {f : Nat → α → Option β} {x : α} {r : β} (h : a = some x) (k : Ev (fun n => f n x) r) : Ev (fun n => a.bind (f n)) r := by
  subst h; exact k
theorem Ev.val {α : Type} {a : Option α} {r : α} (h : a = some r) : Ev (fun _ => a) r := ⟨0, fun _ _ => h⟩
theorem Ev.eq {α : Type} {g : Nat → Option α} {r s : α} (h : Ev g r) (e : r = s) : Ev g s := e ▸ h
theorem Ev.unique {α : Type} {g : Nat → Option α} {r s : α} (h : Ev g r) (k : Ev g s) : r = s := by
  obtain ⟨K, h⟩ := h
  obtain ⟨L, k⟩ := k
  have := (h (max K L) (by omega)).symm.trans (k (max K L) (by omega))
  injection this

/-! ### valid nets -/
def tlt (s t : Tie) : Prop := s.f0 < t.f0 ∨ s.f0 = t.f0 ∧ s.f1 < t.f1
instance (s t : Tie) : Decidable (tlt s t) := by unfold tlt; infer_instance
def inr (n : Int) (t : Tie) : Prop := 0 ≤ t.f0 ∧ t.f0 < t.f1 ∧ t.f1 < n
instance (n : Int) (t : Tie) : Decidable (inr n t) := by unfold inr; infer_instance
/-- each stands ahead of the next -/
def asc : List Tie → Prop
  | [] => True
  | [_] => True
  | a :: b :: r => tlt a b ∧ asc (b :: r)
instance asc_dec : (l : List Tie) → Decidable (asc l)
  | [] => isTrue trivial
  | [_] => isTrue trivial
  | a :: b :: r => by
    have := asc_dec (b :: r)
    unfold asc
    infer_instance
def ok (n : Int) (E : List Tie) : Prop := 0 ≤ n ∧ n ≤ 8 ∧ (∀ t ∈ E, inr n t) ∧ asc E
instance (n : Int) (E : List Tie) : Decidable (ok n E) := by unfold ok; infer_instance

theorem tlt_trans {a b c : Tie} (h : tlt a b) (k : tlt b c) : tlt a c := by
  unfold tlt at *; omega
theorem tlt_irrefl (a : Tie) : ¬ tlt a a := by unfold tlt; omega
theorem tlt_asymm {a b : Tie} (h : tlt a b) : ¬ tlt b a := by unfold tlt at *; omega
theorem tlt_tri (a b : Tie) : tlt a b ∨ a = b ∨ tlt b a := by
  obtain ⟨a0, a1⟩ := a
  obtain ⟨b0, b1⟩ := b
  unfold tlt
  simp only [Tie.mk.injEq]
  omega
theorem asc_cons {a : Tie} {l : List Tie} : asc (a :: l) ↔ (∀ t ∈ l, tlt a t) ∧ asc l := by
  induction l generalizing a with
  | nil => simp [asc]
  | cons b r ih =>
    constructor
    · intro h
      obtain ⟨h1, h2⟩ := h
      refine ⟨fun t ht => ?_, h2⟩
      rcases List.mem_cons.1 ht with rfl | ht
      · exact h1
      · exact tlt_trans h1 ((ih.1 h2).1 t ht)
    · rintro ⟨h1, h2⟩
      exact ⟨h1 b (List.mem_cons_self), h2⟩
theorem asc_pairwise {l : List Tie} : asc l ↔ l.Pairwise tlt := by
  induction l with
  | nil => simp [asc]
  | cons a l ih => rw [asc_cons, List.pairwise_cons, ih]
theorem asc_nodup {l : List Tie} (h : asc l) : l.Nodup := by
  rw [asc_pairwise] at h
  exact h.imp (fun {a b} hab e => by subst e; exact tlt_irrefl a hab)
theorem asc_sublist {l m : List Tie} (h : asc m) (s : l.Sublist m) : asc l := by
  rw [asc_pairwise] at *; exact h.sublist s
theorem asc_filter {l : List Tie} (p : Tie → Bool) (h : asc l) : asc (l.filter p) := asc_sublist h List.filter_sublist
theorem ok_filter {n : Int} {E : List Tie} (p : Tie → Bool) (h : ok n E) : ok n (E.filter p) :=
  ⟨h.1, h.2.1, fun t ht => h.2.2.1 t (List.mem_filter.1 ht).1, asc_filter p h.2.2.2⟩
theorem ok_sublist {n : Int} {E F : List Tie} (h : ok n E) (s : F.Sublist E) : ok n F :=
  ⟨h.1, h.2.1, fun t ht => h.2.2.1 t (s.subset ht), asc_sublist h.2.2.2 s⟩
theorem asc_len {l : List Tie} (lo : Int) (hl : ∀ t ∈ l, 0 ≤ t.f0 ∧ t.f0 < 8 ∧ 0 ≤ t.f1 ∧ t.f1 < 8) (h : asc l) (hlo : ∀ t ∈ l, lo ≤ t.f0 * 8 + t.f1) (h64 : lo ≤ 64) : (l.length : Int) ≤ 64 - lo := by
  induction l generalizing lo with
  | nil => simp; omega
  | cons a r ih =>
    obtain ⟨h1, h2⟩ := asc_cons.1 h
    have ha := hlo a (List.mem_cons_self)
    have hb := hl a (List.mem_cons_self)
    have := ih (a.f0 * 8 + a.f1 + 1) (fun t ht => hl t (List.mem_cons_of_mem _ ht)) h2 (fun t ht => by
      have := h1 t ht
      have hc := hl t (List.mem_cons_of_mem _ ht)
      unfold tlt at this; omega) (by omega)
    simp only [List.length_cons]
    omega
theorem ok_len {n : Int} {E : List Tie} (h : ok n E) : (E.length : Int) ≤ 64 := by
  have := asc_len (l := E) 0 (fun t ht => by have := h.2.2.1 t ht; have := h.2.1; unfold inr at *; omega) h.2.2.2 (fun t ht => by have := h.2.2.1 t ht; unfold inr at this; omega) (by omega)
  omega

end Go.Proofs.Ytddadihobjinhaa.G
