/- The plain parts of one law's proof, one behind the other: of no condition of their own. -/
import Derived.Test.YtgeonpciodepgaaGa
import Derived.Test.YtgeonpciodepgaaF3
import Derived.Test.YtgeonpciodepgaaF2
import Derived.Test.YtgeonpciodepgaaF4
import Derived.Test.YtgeonpciodepgaaF7
import Derived.Test.YtgeonpciodepgaaF21
import Derived.Test.YtgeonpciodepgaaF22
import Derived.Test.YtgeonpciodepgaaF23
import Derived.Test.YtgeonpciodepgaaF11
import Derived.Test.YtgeonpciodepgaaF24
import Derived.Test.YtgeonpciodepgaaBearok
import Derived.Test.YtgeonpciodepgaaF19
import Derived.Test.YtgeonpciodepgaaF20
import Derived.Test.YtgeonpciodepgaaF28
import Derived.Test.YtgeonpciodepgaaF35
import Derived.Test.YtgeonpciodepgaaF29
import Derived.Test.YtgeonpciodepgaaF36
import Derived.Deep.SlicePairs
import Derived.Lib.SmallJoins
import Derived.ProofKit
import Derived.Test.YtgeonpciodepgaaV
import Derived.Deep.Slices
import Derived.Test.YtgeonpciodepgaaF0
set_option linter.unusedSimpArgs false
set_option linter.unusedVariables false
namespace Go.Proofs.Ytgeonpciodepgaa.G
open Go.RowKit Go.Proofs.YtgeonpciodepgaaW.PrintWords

abbrev big : Int := 4611686018427387904

theorem w64 {x : Int} (h0 : -9223372036854775808 ≤ x) (h1 : x ≤ 9223372036854775807) : wrap64 x = x := by
 unfold wrap64
 omega
theorem lt_mid {α : Type} (pre : List α) (t : α) (suf : List α) : (pre.length : Int) < ((pre ++ t :: suf).length : Int) := by
 simp; omega
theorem nlt_end {α : Type} (pre : List α) : ¬ (pre.length : Int) < ((pre ++ []).length : Int) := by
 simp
theorem nn (n : Nat) : 0 ≤ (n : Int) := Int.natCast_nonneg n
theorem nn0 (n : Nat) : (0 ≤ (n : Int)) = True := eq_true (nn n)
theorem app_one {α : Type} (pre : List α) (t : α) (suf : List α) : pre ++ t :: suf = (pre ++ [t]) ++ suf := by simp
theorem w_succ {α : Type} {pre : List α} {t : α} (h : (pre.length : Int) < big) : wrap64 ((pre.length : Int) + 1) = ((pre ++ [t]).length : Int) := by
 rw [w64 (by omega) (by unfold big at h; omega)]; simp
theorem getD_mid {α : Type} (pre : List α) (t : α) (suf : List α) (d : α) : (pre ++ t :: suf).getD ((pre.length : Int)).toNat d = t := by
 simp [List.getD]
theorem rd_mid (pre : List Int) (t : Int) (suf : List Int) : rd (pre ++ t :: suf) (pre.length : Int) = t := by
 unfold rd; exact getD_mid pre t suf 0
theorem rdOf_mid {α : Type} (d : α) (pre : List α) (t : α) (suf : List α) : rdOf d (pre ++ t :: suf) (pre.length : Int) = t := by
 unfold rdOf; exact getD_mid pre t suf d
theorem len_mid {α : Type} {pre : List α} {t : α} {suf : List α} (h : ((pre ++ t :: suf).length : Int) < big) : (pre.length : Int) < big := by
 simp at h; unfold big at *; omega
theorem len_app {α : Type} {pre : List α} {t : α} {suf : List α} (h : ((pre ++ t :: suf).length : Int) < big) : (((pre ++ [t]) ++ suf).length : Int) < big := by
 rw [← app_one]; exact h

theorem Ev.const {α β : Type} {a : Option α} {f : Nat → α → Option β} {x : α} {r : β} (h : a = some x) (k : Ev (fun n => f n x) r) : Ev (fun n => a.bind (f n)) r := by
 subst h; exact k
theorem Ev.val {α : Type} {a : Option α} {r : α} (h : a = some r) : Ev (fun _ => a) r := ⟨0, fun _ _ => h⟩
theorem Ev.eq {α : Type} {g : Nat → Option α} {r s : α} (h : Ev g r) (e : r = s) : Ev g s := e ▸ h
theorem Ev.unique {α : Type} {g : Nat → Option α} {r s : α} (h : Ev g r) (k : Ev g s) : r = s := by
 obtain ⟨K, h⟩ := h
 obtain ⟨L, k⟩ := k
 have := (h (max K L) (by omega)).symm.trans (k (max K L) (by omega))
 injection this

def tlt (s t : Tie) : Prop := s.f0 < t.f0 ∨ s.f0 = t.f0 ∧ s.f1 < t.f1
instance (s t : Tie) : Decidable (tlt s t) := by unfold tlt; infer_instance
def inr (n : Int) (t : Tie) : Prop := 0 ≤ t.f0 ∧ t.f0 < t.f1 ∧ t.f1 < n
instance (n : Int) (t : Tie) : Decidable (inr n t) := by unfold inr; infer_instance
def asc : List Tie → Prop
 | [] => True
 | [_] => True
 | a :: b :: r => tlt a b ∧ asc (b :: r)
instance asc_dec : (l : List Tie) → Decidable (asc l)
 | [] => isTrue trivial
 | [_] => isTrue trivial
 | a :: b :: r => by
  have := asc_dec (b :: r)
  unfold asc
  infer_instance
def ok (n : Int) (E : List Tie) : Prop := 0 ≤ n ∧ n ≤ 8 ∧ (∀ t ∈ E, inr n t) ∧ asc E
instance (n : Int) (E : List Tie) : Decidable (ok n E) := by unfold ok; infer_instance

theorem tlt_trans {a b c : Tie} (h : tlt a b) (k : tlt b c) : tlt a c := by
 unfold tlt at *; omega
theorem tlt_irrefl (a : Tie) : ¬ tlt a a := by unfold tlt; omega
theorem tlt_asymm {a b : Tie} (h : tlt a b) : ¬ tlt b a := by unfold tlt at *; omega
theorem tlt_tri (a b : Tie) : tlt a b ∨ a = b ∨ tlt b a := by
 obtain ⟨a0, a1⟩ := a
 obtain ⟨b0, b1⟩ := b
 unfold tlt
 simp only [Tie.mk.injEq]
 omega
theorem asc_cons {a : Tie} {l : List Tie} : asc (a :: l) ↔ (∀ t ∈ l, tlt a t) ∧ asc l := by
 induction l generalizing a with
 | nil => simp [asc]
 | cons b r ih =>
  constructor
  ·intro h
   obtain ⟨h1, h2⟩ := h
   refine ⟨fun t ht => ?_, h2⟩
   rcases List.mem_cons.1 ht with rfl | ht
   ·exact h1
   ·exact tlt_trans h1 ((ih.1 h2).1 t ht)
  ·rintro ⟨h1, h2⟩
   exact ⟨h1 b (List.mem_cons_self), h2⟩
theorem asc_pairwise {l : List Tie} : asc l ↔ l.Pairwise tlt := by
 induction l with
 | nil => simp [asc]
 | cons a l ih => rw [asc_cons, List.pairwise_cons, ih]
theorem asc_nodup {l : List Tie} (h : asc l) : l.Nodup := by
 rw [asc_pairwise] at h
 exact h.imp (fun {a b} hab e => by subst e; exact tlt_irrefl a hab)
theorem asc_sublist {l m : List Tie} (h : asc m) (s : l.Sublist m) : asc l := by
 rw [asc_pairwise] at *; exact h.sublist s
theorem asc_filter {l : List Tie} (p : Tie → Bool) (h : asc l) : asc (l.filter p) := asc_sublist h List.filter_sublist
theorem ok_filter {n : Int} {E : List Tie} (p : Tie → Bool) (h : ok n E) : ok n (E.filter p) :=
 ⟨h.1, h.2.1, fun t ht => h.2.2.1 t (List.mem_filter.1 ht).1, asc_filter p h.2.2.2⟩
theorem ok_sublist {n : Int} {E F : List Tie} (h : ok n E) (s : F.Sublist E) : ok n F :=
 ⟨h.1, h.2.1, fun t ht => h.2.2.1 t (s.subset ht), asc_sublist h.2.2.2 s⟩
theorem asc_len {l : List Tie} (lo : Int) (hl : ∀ t ∈ l, 0 ≤ t.f0 ∧ t.f0 < 8 ∧ 0 ≤ t.f1 ∧ t.f1 < 8) (h : asc l) (hlo : ∀ t ∈ l, lo ≤ t.f0 * 8 + t.f1) (h64 : lo ≤ 64) : (l.length : Int) ≤ 64 - lo := by
 induction l generalizing lo with
 | nil => simp; omega
 | cons a r ih =>
  obtain ⟨h1, h2⟩ := asc_cons.1 h
  have ha := hlo a (List.mem_cons_self)
  have hb := hl a (List.mem_cons_self)
  have := ih (a.f0 * 8 + a.f1 + 1) (fun t ht => hl t (List.mem_cons_of_mem _ ht)) h2 (fun t ht => by
   have := h1 t ht
   have hc := hl t (List.mem_cons_of_mem _ ht)
   unfold tlt at this; omega) (by omega)
  simp only [List.length_cons]
  omega
theorem ok_len {n : Int} {E : List Tie} (h : ok n E) : (E.length : Int) ≤ 64 := by
 have := asc_len (l := E) 0 (fun t ht => by have := h.2.2.1 t ht; have := h.2.1; unfold inr at *; omega) h.2.2.2 (fun t ht => by have := h.2.2.1 t ht; unfold inr at this; omega) (by omega)
 omega

end Go.Proofs.Ytgeonpciodepgaa.G

namespace Go.Proofs.Ytgeonpciodepgaa.G
def tieOf (a b : Int) : Tie := if a < b then ⟨a, b⟩ else ⟨b, a⟩
theorem tieOf_comm (a b : Int) : tieOf a b = tieOf b a := by
 unfold tieOf
 rcases Int.lt_trichotomy a b with h | h | h
 ·rw [if_pos h, if_neg (by omega)]
 ·subst h; rfl
 ·rw [if_neg (by omega), if_pos h]
theorem tieOf_inr {n : Int} {t : Tie} (h : inr n t) : tieOf t.f0 t.f1 = t := by
 unfold tieOf; rw [if_pos h.2.1]
theorem tieOf_lt {a b : Int} (h : a < b) : tieOf a b = ⟨a, b⟩ := by unfold tieOf; rw [if_pos h]
theorem tieOf_ge {a b : Int} (h : ¬ a < b) : tieOf a b = ⟨b, a⟩ := by unfold tieOf; rw [if_neg h]
end Go.Proofs.Ytgeonpciodepgaa.G
namespace Go.Proofs.Ytgeonpciodepgaa.P
open Go.RowKit Go.Proofs.YtgeonpciodepgaaW.PrintWords Go.Proofs.Ytgeonpciodepgaa.G
theorem rdH_mid (pre : List S59) (t : S59) (suf : List S59) : rd_T59 (pre ++ t :: suf) (pre.length : Int) = t := by
 unfold rd_T59; exact getD_mid pre t suf _
theorem l1Tie_eq (a b : Int) : spec_l1Tie.f a b = some ((tieOf a b).f0, (tieOf a b).f1) := by
 unfold spec_l1Tie.f tieOf
 by_cases h : a < b <;> simp [h]
theorem tie_beq (s t : Tie) : (s.f0 == t.f0 && (s.f1 == t.f1)) = decide (s = t) := by
 obtain ⟨a, b⟩ := s
 obtain ⟨c, d⟩ := t
 simp only [Tie.mk.injEq]
 by_cases h : a = c <;> by_cases k : b = d <;> simp [h, k]
theorem l1Has_l0 (n a b : Int) : ∀ (suf p : List S59), ((p ++ suf).length : Int) < big →
  Ev (fun k => spec_l1Has.l0 k a b (p.length : Int) n (p ++ suf)) (decide (tieOf a b ∈ suf)) := by
 intro suf
 induction suf with
 | nil =>
  intro p hb
  refine Ev.step (fun k => by simp only [spec_l1Has.l0, nlt_end, if_false] <;> exact rfl) ?_
  exact Ev.val (congrArg some (decide_eq_false (by simp)).symm)
 | cons t suf ih =>
  intro p hb
  have hp : (p.length : Int) < big := len_mid hb
  refine Ev.step (fun k => by simp only [spec_l1Has.l0, lt_mid, nn, if_true, rdH_mid, w_succ (t := t) hp, l1Tie_eq, Option.bind_some, tie_beq, decide_eq_true_eq] <;> exact rfl) ?_
  by_cases c : t = tieOf a b
  ·simp only [if_pos c]
   exact Ev.val (congrArg some (decide_eq_true (by simp [c])).symm)
  ·simp only [if_neg c]
   rw [app_one p t suf]
   refine Ev.eq (ih (p ++ [t]) (len_app hb)) ?_
   rw [decide_eq_decide]
   have : ¬ tieOf a b = t := fun e => c e.symm
   simp [this]
theorem l1Has_ev (n a b : Int) (E : List S59) (hb : (E.length : Int) < big) : Ev (fun k => spec_l1Has.f k n E a b) (decide (tieOf a b ∈ E)) := by
 unfold spec_l1Has.f
 exact l1Has_l0 n a b E [] hb
end Go.Proofs.Ytgeonpciodepgaa.P

namespace Go.Proofs.Ytgeonpciodepgaa.G
def cut (X : List Tie) (t : Tie) : List Tie := X.filter fun s => !decide (s = t)
theorem mem_cut {X : List Tie} {s t : Tie} : s ∈ cut X t ↔ s ∈ X ∧ s ≠ t := by
 unfold cut
 rw [List.mem_filter]
 simp
theorem ok_cut {n : Int} {X : List Tie} (t : Tie) (h : ok n X) : ok n (cut X t) := ok_filter _ h
theorem cut_none {X : List Tie} {t : Tie} (h : t ∉ X) : cut X t = X := by
 unfold cut
 rw [List.filter_eq_self]
 intro s hs
 have : s ≠ t := fun e => h (e ▸ hs)
 simp [this]
theorem cut_len {X : List Tie} (hX : X.Nodup) (t : Tie) : (cut X t).length + (if t ∈ X then 1 else 0) = X.length := by
 induction X with
 | nil => simp [cut]
 | cons a r ih =>
  obtain ⟨h1, h2⟩ := List.nodup_cons.1 hX
  have ih := ih h2
  by_cases e : a = t
  ·subst e
   have : cut (a :: r) a = cut r a := by simp [cut]
   rw [this, cut_none h1]
   simp
  ·have e1 : cut (a :: r) t = a :: cut r t := by simp [cut, e]
   rw [e1]
   have e2 : (t ∈ a :: r) = (t ∈ r) := by simp [Ne.symm e]
   simp only [e2, List.length_cons]
   omega
theorem cut_nodup {X : List Tie} (hX : X.Nodup) (t : Tie) : (cut X t).Nodup := hX.sublist List.filter_sublist
def ties : List Int → List Tie
 | a :: b :: r => tieOf a b :: ties (b :: r)
 | _ => []
def cuts : List Tie → List Tie → Prop
 | _, [] => True
 | X, t :: r => t ∈ X ∧ cuts (cut X t) r
instance cuts_dec : (X T : List Tie) → Decidable (cuts X T)
 | _, [] => isTrue trivial
 | X, t :: r => by
  have := cuts_dec (cut X t) r
  unfold cuts
  infer_instance
def left (X : List Tie) : List Tie → List Tie
 | [] => X
 | t :: r => left (cut X t) r
theorem mem_left {T : List Tie} : ∀ {X : List Tie} {s : Tie}, s ∈ left X T ↔ s ∈ X ∧ s ∉ T := by
 induction T with
 | nil => intro X s; simp [left]
 | cons t r ih =>
  intro X s
  unfold left
  rw [ih, mem_cut]
  simp only [List.mem_cons, not_or]
  exact ⟨fun ⟨⟨a, b⟩, c⟩ => ⟨a, b, c⟩, fun ⟨a, b, c⟩ => ⟨⟨a, b⟩, c⟩⟩
theorem cuts_iff {T : List Tie} : ∀ {X : List Tie}, cuts X T ↔ (∀ t ∈ T, t ∈ X) ∧ T.Nodup := by
 induction T with
 | nil => intro X; simp [cuts]
 | cons t r ih =>
  intro X
  unfold cuts
  rw [ih, List.nodup_cons]
  constructor
  ·rintro ⟨h1, h2, h3⟩
   refine ⟨fun s hs => ?_, fun ht => ?_, h3⟩
   ·rcases List.mem_cons.1 hs with rfl | hs
    ·exact h1
    ·exact (mem_cut.1 (h2 s hs)).1
   ·exact (mem_cut.1 (h2 t ht)).2 rfl
  ·rintro ⟨h1, h2, h3⟩
   refine ⟨h1 t (List.mem_cons_self), fun s hs => mem_cut.2 ⟨h1 s (List.mem_cons_of_mem _ hs), fun e => h2 (e ▸ hs)⟩, h3⟩
theorem left_len {T : List Tie} : ∀ {X : List Tie}, X.Nodup → (left X T).length + T.length ≥ X.length ∧ ((left X T).length + T.length = X.length ↔ cuts X T) := by
 induction T with
 | nil => intro X hX; simp [left, cuts]
 | cons t r ih =>
  intro X hX
  have h := cut_len hX t
  obtain ⟨a, b⟩ := ih (cut_nodup hX t)
  unfold left cuts
  rw [List.length_cons]
  by_cases c : t ∈ X
  ·rw [if_pos c] at h
   refine ⟨by omega, ?_⟩
   rw [← b]
   constructor
   ·intro e; exact ⟨c, by omega⟩
   ·rintro ⟨_, e⟩; omega
  ·rw [if_neg c] at h
   refine ⟨by omega, ?_⟩
   constructor
   ·intro e; omega
   ·rintro ⟨e, _⟩; exact absurd e c
theorem left_nil {X T : List Tie} (hX : X.Nodup) (hl : T.length = X.length) : left X T = [] ↔ cuts X T := by
 rw [← (left_len hX).2, ← List.length_eq_zero_iff]
 omega
theorem ties_len : ∀ (r : List Int), (ties r).length = r.length - 1
 | [] => rfl
 | [_] => rfl
 | a :: b :: r => by
  have := ties_len (b :: r)
  simp only [ties, List.length_cons] at *
  omega
def trailOk (n : Int) (E : List Tie) (row : List Int) : Prop := ok n E ∧ row.length = E.length + 1 ∧ (∀ v ∈ row, 0 ≤ v ∧ v < n) ∧ cuts E (ties row)
instance (n : Int) (E : List Tie) (row : List Int) : Decidable (trailOk n E row) := by unfold trailOk; infer_instance
theorem tieOf_ends {n a b : Int} (h : inr n (tieOf a b)) : (0 ≤ a ∧ a < n) ∧ (0 ≤ b ∧ b < n) ∧ a ≠ b := by
 unfold tieOf inr at h
 by_cases c : a < b
 ·rw [if_pos c] at h; simp only at h; omega
 ·rw [if_neg c] at h; simp only at h; omega
theorem ties_knots {n : Int} {E : List Tie} (hE : ∀ t ∈ E, inr n t) : ∀ (r : List Int) (a : Int), 0 ≤ a ∧ a < n → (∀ t ∈ ties (a :: r), t ∈ E) → ∀ v ∈ a :: r, 0 ≤ v ∧ v < n
 | [], a, ha, _ => by simpa using ha
 | b :: r, a, ha, h => by
  intro v hv
  have ht : tieOf a b ∈ E := h _ (by simp [ties])
  have hb := (tieOf_ends (hE _ ht)).2.1
  rcases List.mem_cons.1 hv with rfl | hv
  ·exact ha
  ·exact ties_knots hE r b hb (fun t ht => h t (by simp [ties, ht])) v hv
end Go.Proofs.Ytgeonpciodepgaa.G

namespace Go.Proofs.Ytgeonpciodepgaa.G
theorem ties_snoc : ∀ (xs : List Int) (y a : Int), ties (xs ++ [y, a]) = ties (xs ++ [y]) ++ [tieOf y a]
 | [], y, a => rfl
 | [x], y, a => rfl
 | x :: z :: r, y, a => by
  have := ties_snoc (z :: r) y a
  show tieOf x z :: ties (z :: r ++ [y, a]) = tieOf x z :: ties (z :: r ++ [y]) ++ [tieOf y a]
  rw [this]; rfl
theorem ties_reverse : ∀ r : List Int, ties r.reverse = (ties r).reverse
 | [] => rfl
 | [_] => rfl
 | a :: b :: r => by
  have h := ties_reverse (b :: r)
  have e : (a :: b :: r).reverse = r.reverse ++ [b, a] := by simp
  have e2 : (b :: r).reverse = r.reverse ++ [b] := by simp
  rw [e, ties_snoc, ← e2, h, tieOf_comm b a]
  show _ = (tieOf a b :: ties (b :: r)).reverse
  rw [List.reverse_cons]
theorem trailOk_reverse {n : Int} {E : List Tie} {row : List Int} : trailOk n E row.reverse ↔ trailOk n E row := by
 unfold trailOk
 rw [cuts_iff, cuts_iff, ties_reverse, List.length_reverse, (List.reverse_perm (ties row)).nodup_iff]
 simp only [List.mem_reverse]
theorem trailOk_tail {n : Int} {E : List Tie} {a b : Int} {r : List Int} (h : trailOk n E (a :: b :: r)) : tieOf a b ∈ E ∧ trailOk n (cut E (tieOf a b)) (b :: r) := by
 obtain ⟨h1, h2, h3, h4, h5⟩ := h
 have hl := cut_len (asc_nodup h1.2.2.2) (tieOf a b)
 rw [if_pos h4] at hl
 simp only [List.length_cons] at h2
 exact ⟨h4, ok_cut _ h1, by rw [List.length_cons]; omega, fun v hv => h3 v (List.mem_cons_of_mem _ hv), h5⟩
end Go.Proofs.Ytgeonpciodepgaa.G

namespace Go.Proofs.Ytgeonpciodepgaa.G
def addK (ks : List Int) (v : Int) : List Int := if v ∈ ks then ks else ks ++ [v]
def addAll (ks : List Int) (row : List Int) : List Int := row.foldl addK ks
theorem mem_addK (ks : List Int) (v x : Int) : x ∈ addK ks v ↔ x ∈ ks ∨ x = v := by
 unfold addK; split
 ·rename_i h; exact ⟨Or.inl, fun k => k.elim id (fun e => e ▸ h)⟩
 ·simp
theorem nodup_addK {ks : List Int} (v : Int) (h : ks.Nodup) : (addK ks v).Nodup := by
 unfold addK; split
 ·exact h
 ·rename_i k
  rw [List.nodup_append]
  exact ⟨h, by simp, fun x hx y hy e => by rw [List.mem_singleton] at hy; subst hy; subst e; exact k hx⟩
theorem mem_addAll : ∀ (row ks : List Int) (x : Int), x ∈ addAll ks row ↔ x ∈ ks ∨ x ∈ row
 | [], ks, x => by simp [addAll]
 | v :: r, ks, x => by
  show x ∈ addAll (addK ks v) r ↔ _
  rw [mem_addAll r, mem_addK]; simp [or_assoc]
theorem nodup_addAll : ∀ (row : List Int) {ks : List Int}, ks.Nodup → (addAll ks row).Nodup
 | [], _, h => h
 | v :: r, _, h => nodup_addAll r (nodup_addK v h)
theorem addAll_app (ks p q : List Int) : addAll ks (p ++ q) = addAll (addAll ks p) q := by unfold addAll; rw [List.foldl_append]
theorem addAll_len_le : ∀ (row ks : List Int), (addAll ks row).length ≤ ks.length + row.length
 | [], ks => by simp [addAll]
 | v :: r, ks => by
  have h := addAll_len_le r (addK ks v)
  have : (addK ks v).length ≤ ks.length + 1 := by unfold addK; split <;> simp
  show (addAll (addK ks v) r).length ≤ _
  simp only [List.length_cons]; omega
def midOf (row : List Int) : List Int := (row.drop 1).dropLast
def hdOf (row : List Int) : Int := row.getD 0 0
def lstOf (row : List Int) : Int := row.getLastD 0
structure earOk (n : Int) (E taken : List Tie) (ks : List Int) (first : Bool) (row : List Int) : Prop where
 len : 2 ≤ row.length
 knots : ∀ v ∈ row, 0 ≤ v ∧ v < n
 tied : ∀ t ∈ ties row, t ∈ E
 ring : first = true → hdOf row = lstOf row
 ends : first = false → hdOf row ∈ ks ∧ lstOf row ∈ ks
 long : hdOf row = lstOf row → 4 ≤ row.length
 mid : (midOf row).Nodup
 apart : ∀ v ∈ midOf row, v ∉ ks ∧ v ≠ hdOf row
 new : ∀ t ∈ ties row, t ∉ taken
def earsOk (n : Int) (E : List Tie) : Bool → List Tie → List Int → List (List Int) → Prop
 | _, taken, ks, [] => taken.length = E.length ∧ (ks.length : Int) = n
 | first, taken, ks, row :: rest => earOk n E taken ks first row ∧ earsOk n E false (taken ++ ties row) (addAll ks row) rest
theorem ears_len {n : Int} {E : List Tie} : ∀ (rest : List (List Int)) (first : Bool) (taken : List Tie) (ks : List Int), earsOk n E first taken ks rest → taken.length + rest.length ≤ E.length
 | [], _, _, _, h => by have := h.1; simp; omega
 | row :: rest, first, taken, ks, h => by
  have h1 := ears_len rest false _ _ h.2
  have h2 := h.1.len
  rw [List.length_append, ties_len] at h1
  simp only [List.length_cons]
  omega
theorem row_parts {row : List Int} (h : 2 ≤ row.length) : ∃ a m z, row = a :: (m ++ [z]) := by
 cases row with
 | nil => simp at h
 | cons a r =>
  have hr : r ≠ [] := fun e => by rw [e] at h; simp at h
  exact ⟨a, r.dropLast, r.getLast hr, by rw [List.dropLast_concat_getLast]⟩
theorem hd_parts (a : Int) (m : List Int) (z : Int) : hdOf (a :: (m ++ [z])) = a := rfl
theorem lst_parts (a : Int) (m : List Int) (z : Int) : lstOf (a :: (m ++ [z])) = z := by
 unfold lstOf
 rw [show a :: (m ++ [z]) = (a :: m) ++ [z] from rfl, List.getLastD_concat]
theorem mid_parts (a : Int) (m : List Int) (z : Int) : midOf (a :: (m ++ [z])) = m := by
 unfold midOf
 simp
theorem ties_mem {t : Tie} : ∀ (r : List Int), t ∈ ties r → t.f0 ∈ r ∧ t.f1 ∈ r
 | [], h => by simp [ties] at h
 | [a], h => by simp [ties] at h
 | a :: b :: r, h => by
  simp only [ties, List.mem_cons] at h
  rcases h with rfl | h
  ·unfold tieOf; split <;> simp
  ·have := ties_mem (b :: r) h
   exact ⟨List.mem_cons_of_mem _ this.1, List.mem_cons_of_mem _ this.2⟩
theorem tiesApp : ∀ (p : List Int) (v w : Int) (s : List Int), ties (p ++ v :: w :: s) = ties (p ++ [v]) ++ tieOf v w :: ties (w :: s)
 | [], v, w, s => by simp [ties]
 | [a], v, w, s => by simp [ties]
 | a :: b :: r, v, w, s => by
  have := tiesApp (b :: r) v w s
  simp only [List.cons_append, ties] at this ⊢
  rw [this]
theorem tieOf_eq {a b c d : Int} (h : tieOf a b = tieOf c d) : a = c ∧ b = d ∨ a = d ∧ b = c := by
 unfold tieOf at h
 split at h <;> split at h <;> simp only [Tie.mk.injEq] at h <;> omega
theorem ties_nodup : ∀ (r : List Int), r.Nodup → (ties r).Nodup
 | [], _ => by simp [ties]
 | [a], _ => by simp [ties]
 | a :: b :: r, h => by
  rw [List.nodup_cons] at h
  simp only [ties, List.nodup_cons]
  refine ⟨fun k => ?_, ties_nodup (b :: r) h.2⟩
  have := ties_mem (b :: r) k
  unfold tieOf at this
  split at this
  ·exact h.1 this.1
  ·exact h.1 this.2
theorem ties_nodup_ring (a : Int) (m : List Int) (h : (a :: m).Nodup) (hl : 2 ≤ m.length) : (ties (a :: m ++ [a])).Nodup := by
 obtain ⟨p, y, rfl⟩ : ∃ p y, m = p ++ [y] := ⟨m.dropLast, m.getLast (fun e => by rw [e] at hl; simp at hl), (List.dropLast_concat_getLast _).symm⟩
 have e : a :: (p ++ [y]) ++ [a] = (a :: p) ++ [y, a] := by simp
 rw [e, ties_snoc, List.nodup_append]
 have hn := ties_nodup _ h
 refine ⟨by simpa using hn, by simp, fun x hx z hz e2 => ?_⟩
 rw [List.mem_singleton] at hz
 subst hz; subst e2
 cases p with
 | nil => simp at hl
 | cons b q =>
  simp only [List.cons_append, ties, List.mem_cons] at hx
  simp only [List.cons_append, List.nodup_cons, List.mem_cons, List.mem_append, not_or] at h
  rcases hx with hx | hx
  ·rcases tieOf_eq hx with ⟨h1, h2⟩ | ⟨h1, h2⟩
   ·exact h.1.1 h2
   ·exact h.2.1.2.1 h1.symm
  ·have hm := ties_mem (b :: (q ++ [y])) (by simpa using hx)
   have ha : a ∉ b :: (q ++ [y]) := by simp; exact ⟨h.1.1, h.1.2.1, h.1.2.2.1⟩
   unfold tieOf at hm
   split at hm
   ·exact ha hm.2
   ·exact ha hm.1
theorem ear_ties_nodup {n : Int} {E taken : List Tie} {ks : List Int} {first : Bool} {row : List Int} (hl : 2 ≤ row.length) (hlong : hdOf row = lstOf row → 4 ≤ row.length) (hm : (midOf row).Nodup) (ha : hdOf row ∉ midOf row) (hz : lstOf row ∉ midOf row) : (ties row).Nodup := by
 obtain ⟨a, m, z, rfl⟩ := row_parts hl
 rw [hd_parts] at hlong ha
 rw [lst_parts] at hlong hz
 rw [mid_parts] at hm ha hz
 by_cases c : a = z
 ·subst c
  have := hlong rfl
  simp at this
  exact ties_nodup_ring a m (List.nodup_cons.2 ⟨ha, hm⟩) (by omega)
 ·refine ties_nodup _ (List.nodup_cons.2 ⟨?_, ?_⟩)
  ·simp; exact ⟨ha, c⟩
  ·rw [List.nodup_append]
   exact ⟨hm, by simp, fun x hx y hy e => by rw [List.mem_singleton] at hy; subst hy; subst e; exact hz hx⟩
end Go.Proofs.Ytgeonpciodepgaa.G

namespace Go.Proofs.Ytgeonpciodepgaa.P
open Go.RowKit Go.Proofs.YtgeonpciodepgaaW.PrintWords Go.Proofs.Ytgeonpciodepgaa.G

theorem rdI_mid (pre : List S59) (t : S59) (suf : List S59) : rd_T59 (pre ++ t :: suf) (pre.length : Int) = t := by
  unfold rd_T59; exact getD_mid pre t suf _

theorem in_eq (a b c : Int) : spec_l6In.f a b c = some (decide (b ≤ a ∧ a ≤ c)) := by
  unfold spec_l6In.f
  by_cases h : b ≤ a <;> simp [h]
theorem less_eq (a b c d : Int) : spec_l1Less.f a b c d = some (decide (tlt ⟨a, b⟩ ⟨c, d⟩)) := by
  unfold spec_l1Less.f tlt
  by_cases h : a < c
  · simp [h]
  · by_cases h2 : a = c <;> simp [h, h2]
theorem len_pred {α : Type} (p : List α) (q : α) (h : ((p ++ [q]).length : Int) < big) : wrap64 (((p ++ [q]).length : Int) - 1) = (p.length : Int) := by
  rw [w64 (by rw [List.length_append]; omega) (by unfold big at h; omega)]; simp
theorem mid_one {α : Type} (p : List α) (q : α) (suf : List α) : p ++ [q] ++ suf = p ++ q :: suf := by simp
theorem lt_mid2 {α : Type} (p : List α) (q : α) (suf : List α) : (p.length : Int) < ((p ++ [q] ++ suf).length : Int) := by simp; omega

theorem specOk_l0 (n : Int) (h0 : 0 ≤ n) (h8 : n ≤ 8) : ∀ (suf p : List S59) (q : S59), (((p ++ [q]) ++ suf).length : Int) < big →
    Ev (fun k => spec_NetOk.l0 k ((p ++ [q]).length : Int) n ((p ++ [q]) ++ suf)) (decide ((∀ t ∈ suf, inr n t) ∧ asc (q :: suf))) := by
  intro suf
  induction suf with
  | nil =>
    intro p q hb
    refine Ev.step (fun k => by simp only [spec_NetOk.l0, nlt_end, if_false] <;> exact rfl) ?_
    exact Ev.val (congrArg some (decide_eq_true (by simp [asc])).symm)
  | cons t suf ih =>
    intro p q hb
    have hp : ((p ++ [q]).length : Int) < big := len_mid hb
    have e1 : ((p ++ [q]).length : Int) > 0 := by rw [List.length_append, List.length_singleton]; omega
    refine Ev.step (fun k => by simp only [spec_NetOk.l0, lt_mid, nn, if_true, rdI_mid, in_eq, less_eq, Option.bind_some, e1, len_pred p q hp, lt_mid2, w_succ (t := t) hp] <;> exact rfl) ?_
    have e2 : rd_T59 (p ++ [q] ++ t :: suf) (p.length : Int) = q := by rw [mid_one]; exact rdI_mid p q _
    simp only [e2, decide_eq_true_eq]
    rw [w64 (by omega) (by omega)]
    by_cases c1 : 0 ≤ t.f0 ∧ t.f0 ≤ n - 1
    · simp only [if_pos c1]
      rw [w64 (by omega) (by omega)]
      by_cases c2 : t.f0 + 1 ≤ t.f1 ∧ t.f1 ≤ n - 1
      · simp only [if_pos c2]
        have ht : inr n t := by unfold inr; omega
        by_cases c3 : tlt q t
        · simp only [if_pos c3]
          rw [app_one (p ++ [q]) t suf]
          refine Ev.eq (ih (p ++ [q]) t (len_app hb)) ?_
          rw [decide_eq_decide]
          simp [asc, ht, c3]
        · simp only [if_neg c3]
          exact Ev.val (by simp [asc, c3])
      · simp only [if_neg c2]
        refine Ev.val ?_
        have : ¬ inr n t := by unfold inr; omega
        simp [this]
    · simp only [if_neg c1]
      refine Ev.val ?_
      have : ¬ inr n t := by unfold inr; omega
      simp [this]

theorem specOk (n : Int) (E : List S59) (hb : (E.length : Int) < big) : Ev (fun k => spec_NetOk.f k n E) (decide (ok n E)) := by
  unfold spec_NetOk.f
  simp only [in_eq, Option.bind_some, decide_eq_true_eq]
  by_cases c1 : 0 ≤ n ∧ n ≤ 8
  · simp only [if_pos c1]
    by_cases c2 : (E.length : Int) > 64
    · refine Ev.step (fun k => by simp only [spec_NetOk.j0, c2, decide_true, if_true] <;> exact rfl) ?_
      exact Ev.val (by rw [decide_eq_false (fun h => by have := ok_len h; omega)])
    · refine Ev.step (fun k => by simp only [spec_NetOk.j0, c2, decide_false, Bool.false_eq_true, if_false] <;> exact rfl) ?_
      cases E with
      | nil =>
        refine Ev.step (fun k => by simp [spec_NetOk.l0] <;> exact rfl) ?_
        exact Ev.val (by simp [ok, asc, c1])
      | cons t suf =>
        have l1 : (0 : Int) < ((t :: suf).length : Int) := by rw [List.length_cons]; omega
        have r1 : rd_T59 (t :: suf) 0 = t := rfl
        have h0 : (0 : Int) ≤ 0 := Int.le_refl 0
        have w1 : wrap64 (0 + 1) = 1 := w64 (by omega) (by omega)
        have g1 : ¬ (0 : Int) > 0 := by omega
        refine Ev.step (fun k => by simp only [spec_NetOk.l0, l1, h0, if_true, r1, in_eq, Option.bind_some, w1, g1, if_false, decide_eq_true_eq] <;> exact rfl) ?_
        rw [w64 (by omega) (by omega)]
        by_cases d1 : 0 ≤ t.f0 ∧ t.f0 ≤ n - 1
        · simp only [if_pos d1]
          rw [w64 (by omega) (by omega)]
          by_cases d2 : t.f0 + 1 ≤ t.f1 ∧ t.f1 ≤ n - 1
          · simp only [if_pos d2]
            have ht : inr n t := by unfold inr; omega
            refine Ev.eq (specOk_l0 n c1.1 c1.2 suf [] t hb) ?_
            rw [decide_eq_decide]
            simp [ok, c1, ht]
          · simp only [if_neg d2]
            refine Ev.val ?_
            have : ¬ inr n t := by unfold inr; omega
            simp [this, ok]
        · simp only [if_neg d1]
          refine Ev.val ?_
          have : ¬ inr n t := by unfold inr; omega
          simp [this, ok]
  · simp only [if_neg c1]
    refine Ev.step (fun k => by simp only [spec_NetOk.j0, if_true] <;> exact rfl) ?_
    refine Ev.val ?_
    have : ¬ ok n E := fun h => c1 ⟨h.1, h.2.1⟩
    simp [this]


def cmp3 (x y : Int) : Int := if x < y then -1 else if y < x then 1 else 0
theorem cmp_eq (a b : Int) : cmp_Compare_int.f a b = some (cmp3 a b) := by
  unfold cmp_Compare_int.f cmp3
  simp only [cmp_isNaN_int.f, bne_self_eq_false, Option.bind_some, Bool.false_eq_true, if_false]
  repeat' split
  all_goals first | rfl | omega
def ord (a b c d : Int) : Int := if cmp3 a c = 0 then cmp3 b d else cmp3 a c
theorem ord_neg (a b c d : Int) : ord a b c d ≥ 0 ↔ ¬ tlt ⟨a, b⟩ ⟨c, d⟩ := by
  unfold ord cmp3 tlt
  simp only
  repeat' split
  all_goals omega
theorem or_two (x y : Int) : Ev (fun k => cmp_Or_int.f k [x, y]) (if x = 0 then y else x) := by
  unfold cmp_Or_int.f
  have l : (([x, y] : List Int).length : Int) = 2 := rfl
  have r0 : rd [x, y] 0 = x := rfl
  have r1 : rd [x, y] 1 = y := rfl
  have h0 : (0 : Int) ≤ 0 := Int.le_refl 0
  have a1 : (0 : Int) ≤ 1 := by omega
  have a2 : (0 : Int) < 2 := by omega
  have a3 : (1 : Int) < 2 := by omega
  have a4 : ¬ (2 : Int) < 2 := by omega
  have w1 : wrap64 (0 + 1) = 1 := w64 (by omega) (by omega)
  have w2 : wrap64 (1 + 1) = 2 := w64 (by omega) (by omega)
  refine Ev.step (fun k => by simp only [cmp_Or_int.l0, l, r0, h0, a2, if_true, w1] <;> exact rfl) ?_
  by_cases c : x = 0
  · simp only [if_pos c]
    refine Ev.step (fun k => by simp only [cmp_Or_int.l0, l, r1, a1, a3, if_true, w2] <;> exact rfl) ?_
    by_cases d : y = 0
    · simp only [if_pos d]
      refine Ev.step (fun k => by simp only [cmp_Or_int.l0, a4, if_false] <;> exact rfl) ?_
      exact Ev.val (by rw [d])
    · simp only [if_neg d]
      exact Ev.val rfl
  · simp only [if_neg c]
    exact Ev.val rfl
theorem order_ev (a b c d : Int) : Ev (fun k => impl_tieOrder.f k a b c d) (ord a b c d) := by
  unfold impl_tieOrder.f
  simp only [cmp_eq, Option.bind_some]
  exact Ev.bind (or_two _ _) (Ev.val rfl)
theorem ascending_l0 : ∀ (suf p : List S59) (q : S59), (((p ++ [q]) ++ suf).length : Int) < big →
    Ev (fun k => impl_ascending.l0 k ((p ++ [q]) ++ suf) ((p ++ [q]).length : Int)) (decide (asc (q :: suf))) := by
  intro suf
  induction suf with
  | nil =>
    intro p q hb
    refine Ev.step (fun k => by simp only [impl_ascending.l0, nlt_end, if_false] <;> exact rfl) ?_
    exact Ev.val (congrArg some (decide_eq_true (by simp [asc])).symm)
  | cons t suf ih =>
    intro p q hb
    have hp : ((p ++ [q]).length : Int) < big := len_mid hb
    have e2 : rd_T59 (p ++ [q] ++ t :: suf) (p.length : Int) = q := by rw [mid_one]; exact rdI_mid p q _
    refine Ev.step (fun k => by simp only [impl_ascending.l0, lt_mid, nn, if_true, rdI_mid, len_pred p q hp, lt_mid2, w_succ (t := t) hp, e2] <;> exact rfl) ?_
    refine Ev.bind (order_ev _ _ _ _) ?_
    simp only [ord_neg]
    by_cases c3 : tlt q t
    · simp only [c3, not_true_eq_false, if_false]
      rw [app_one (p ++ [q]) t suf]
      refine Ev.eq (ih (p ++ [q]) t (len_app hb)) ?_
      rw [decide_eq_decide]
      simp [asc, c3]
    · simp only [c3, not_false_eq_true, if_true]
      exact Ev.val (by simp [asc, c3])
theorem ascending_ev (E : List S59) (hb : (E.length : Int) < big) : Ev (fun k => impl_ascending.f k E) (decide (asc E)) := by
  unfold impl_ascending.f
  cases E with
  | nil =>
    refine Ev.step (fun k => by simp [impl_ascending.l0] <;> exact rfl) ?_
    exact Ev.val (congrArg some (decide_eq_true (by simp [asc])).symm)
  | cons t suf => exact ascending_l0 suf [] t hb
theorem implOk_l0 (n : Int) (E : List S59) (hE : (E.length : Int) < big) : ∀ (suf p : List S59), ((p ++ suf).length : Int) < big →
    Ev (fun k => impl_NetOk.l0 k (p ++ suf) ((p ++ suf).length : Int) (p.length : Int) n E) (decide ((∀ t ∈ suf, inr n t) ∧ asc E)) := by
  intro suf
  induction suf with
  | nil =>
    intro p hb
    refine Ev.step (fun k => by simp only [impl_NetOk.l0, nlt_end, if_false] <;> exact rfl) ?_
    refine Ev.bind (ascending_ev E hE) ?_
    exact Ev.val (by simp)
  | cons t suf ih =>
    intro p hb
    have hp : (p.length : Int) < big := len_mid hb
    refine Ev.step (fun k => by simp only [impl_NetOk.l0, lt_mid, nn, if_true, rdI_mid, w_succ (t := t) hp] <;> exact rfl) ?_
    by_cases c1 : t.f0 < 0
    · simp only [if_pos c1]
      exact Ev.val (by have : ¬ inr n t := by unfold inr; omega
                       simp [this])
    · simp only [if_neg c1]
      by_cases c2 : t.f0 ≥ t.f1
      · simp only [if_pos c2]
        exact Ev.val (by have : ¬ inr n t := by unfold inr; omega
                         simp [this])
      · simp only [if_neg c2]
        by_cases c3 : t.f1 ≥ n
        · simp only [if_pos c3]
          exact Ev.val (by have : ¬ inr n t := by unfold inr; omega
                           simp [this])
        · simp only [if_neg c3]
          rw [app_one p t suf]
          refine Ev.eq (ih (p ++ [t]) (len_app hb)) ?_
          have : inr n t := by unfold inr; omega
          rw [decide_eq_decide]
          simp [this]
theorem implOk (n : Int) (E : List S59) (hb : (E.length : Int) < big) : Ev (fun k => impl_NetOk.f k n E) (decide (ok n E)) := by
  unfold impl_NetOk.f
  by_cases c1 : n < 0
  · simp only [if_pos c1]
    refine Ev.step (fun k => by simp only [impl_NetOk.j0, if_true] <;> exact rfl) ?_
    exact Ev.val (by have : ¬ ok n E := fun h => by have := h.1; omega
                     simp [this])
  · simp only [if_neg c1]
    by_cases c2 : n > 8
    · refine Ev.step (fun k => by simp only [impl_NetOk.j0, c2, decide_true, if_true] <;> exact rfl) ?_
      exact Ev.val (by have : ¬ ok n E := fun h => by have := h.2.1; omega
                       simp [this])
    · refine Ev.step (fun k => by simp only [impl_NetOk.j0, c2, decide_false, Bool.false_eq_true, if_false] <;> exact rfl) ?_
      refine Ev.eq (implOk_l0 n E hb E [] hb) ?_
      rw [decide_eq_decide]
      unfold ok
      constructor
      · exact fun h => ⟨by omega, by omega, h.1, h.2⟩
      · exact fun h => ⟨h.2.2.1, h.2.2.2⟩

end Go.Proofs.Ytgeonpciodepgaa.P

namespace Go.Proofs.Ytgeonpciodepgaa.P
open Go.RowKit Go.Proofs.YtgeonpciodepgaaW.PrintWords Go.Proofs.Ytgeonpciodepgaa.G
theorem l1Knot_ev (n a : Int) (E : List S59) (hE : (E.length : Int) < big) : Ev (fun k => spec_l1Knot.f k n E a) (decide (ok n E ∧ 0 ≤ a ∧ a < n)) := by
 unfold spec_l1Knot.f
 refine Ev.bind (specOk n E hE) ?_
 by_cases c : ok n E
 ·simp only [c, decide_true, if_true, in_eq, Option.bind_some]
  rw [w64 (by have := c.1; omega) (by have := c.2.1; omega)]
  refine Ev.val (congrArg some (decide_eq_decide.2 ?_))
  exact ⟨fun h => ⟨trivial, h.1, by omega⟩, fun h => ⟨h.2.1, by omega⟩⟩
 ·simp only [c, decide_false, Bool.false_eq_true, if_false]
  exact Ev.val (congrArg some (decide_eq_false (by simp)).symm)
theorem specHas_ev (n a b : Int) (E : List S59) (hE : (E.length : Int) < big) : Ev (fun k => spec_NetHas.f k n E a b) (decide (ok n E ∧ tieOf a b ∈ E)) := by
 unfold spec_NetHas.f
 refine Ev.bind (specOk n E hE) ?_
 by_cases c : ok n E
 ·simp only [c, decide_true, if_true]
  refine Ev.bind (l1Has_ev n a b E hE) ?_
  exact Ev.val (by simp)
 ·simp only [c, decide_false, Bool.false_eq_true, if_false]
  exact Ev.val (by simp)
theorem copy_eq (n : Int) (E : List S59) (hE : (E.length : Int) ≤ 1048576) : spec_l1Copy.f n E = some (n, E) := by
 unfold spec_l1Copy.f
 have : ([] : List S59).length + E.length < 8796093022208 := by simp; omega
 simp only [Option.bind_some, this, if_true, List.nil_append]
end Go.Proofs.Ytgeonpciodepgaa.P

namespace Go.Proofs.Ytgeonpciodepgaa.P
open Go.RowKit Go.Proofs.YtgeonpciodepgaaW.PrintWords Go.Proofs.Ytgeonpciodepgaa.G
theorem l2Has_l0 (a : Int) : ∀ (suf p : List Int), ((p ++ suf).length : Int) < big → a ∉ p → Ev (fun k => spec_l2Has.l0 k (p ++ suf) a (p.length : Int)) (decide (a ∈ p ++ suf)) := by
 intro suf
 induction suf with
 | nil =>
  intro p hb hp
  refine Ev.step (fun k => by simp only [spec_l2Has.l0, nlt_end, if_false] <;> exact rfl) (Ev.val ?_)
  rw [decide_eq_false (by simpa using hp)]
 | cons t suf ih =>
  intro p hb hp
  have hl : (p.length : Int) < big := len_mid hb
  by_cases c : t = a
  ·refine Ev.step (fun k => by simp only [spec_l2Has.l0, lt_mid, nn, if_true, rd_mid, if_pos c] <;> exact rfl) (Ev.val ?_)
   rw [decide_eq_true (by simp [c])]
  ·refine Ev.step (fun k => by simp only [spec_l2Has.l0, lt_mid, nn, if_true, rd_mid, if_neg c, w_succ (t := t) hl] <;> exact rfl) ?_
   rw [app_one p t suf]
   exact ih (p ++ [t]) (by rw [← app_one]; exact hb) (fun q => by
    rcases List.mem_append.1 q with q | q
    ·exact hp q
    ·exact c (List.mem_singleton.1 q).symm)
theorem l2Has_ev (S : List Int) (a : Int) (hb : (S.length : Int) < big) : Ev (fun k => spec_l2Has.f k S a) (decide (a ∈ S)) := by
 unfold spec_l2Has.f
 exact l2Has_l0 a S [] hb (by simp)
end Go.Proofs.Ytgeonpciodepgaa.P

namespace Go.Proofs.Ytgeonpciodepgaa.P
open Go.RowKit Go.Proofs.YtgeonpciodepgaaW.PrintWords Go.Proofs.Ytgeonpciodepgaa.G
def scan (n : Int) (E taken : List Tie) (ks : List Int) : List Int → List Int → Prop
 | _, [] => True
 | pre, v :: suf => (0 ≤ v ∧ v < n) ∧ (pre ≠ [] → suf ≠ [] → v ∉ ks ∧ v ∉ pre) ∧ (∀ p u, pre = p ++ [u] → tieOf u v ∈ E ∧ tieOf u v ∉ taken) ∧ scan n E taken ks (pre ++ [v]) suf
theorem fresh_l1 (n : Int) (E taken : List S59) (ks p : List Int) (u v : Int) (suf : List Int) (b' : Bool) (hb : (((p ++ [u]) ++ v :: suf).length : Int) < big)
  (h : Ev (fun k => spec_l22Fresh.l0 k taken ks ((p ++ [u]) ++ v :: suf) (((p ++ [u]) ++ [v]).length : Int) n E) b') : ∀ (rest q : List S59), taken = q ++ rest → (taken.length : Int) < big →
  Ev (fun k => spec_l22Fresh.l1 k taken ks ((p ++ [u]) ++ v :: suf) ((p ++ [u]).length : Int) (q.length : Int) n E) (!decide (tieOf u v ∈ rest) && b') := by
 have hl : ((p ++ [u]).length : Int) < big := len_mid hb
 intro rest
 induction rest with
 | nil =>
  intro q e ht
  subst e
  refine Ev.step (fun k => by simp only [spec_l22Fresh.l1, nlt_end, if_false, w_succ (t := v) hl] <;> exact rfl) (Ev.eq h (by simp))
 | cons t rest ih =>
  intro q e ht
  subst e
  have hq : (q.length : Int) < big := len_mid ht
  have c1 : 0 ≤ wrap64 (((p ++ [u]).length : Int) - 1) := by rw [len_pred p u hl]; exact nn _
  have c2 : wrap64 (((p ++ [u]).length : Int) - 1) < (((p ++ [u]) ++ v :: suf).length : Int) := by rw [len_pred p u hl]; exact lt_mid2 p u (v :: suf)
  have r1 : rd ((p ++ [u]) ++ v :: suf) (wrap64 (((p ++ [u]).length : Int) - 1)) = u := by rw [len_pred p u hl, mid_one]; exact rd_mid p u (v :: suf)
  refine Ev.step (fun k => by simp only [spec_l22Fresh.l1, lt_mid, nn, if_true, if_pos c1, if_pos c2, r1, rd_mid, l1Tie_eq, Option.bind_some, rdH_mid, tie_beq, decide_eq_true_eq, w_succ (t := t) hq] <;> exact rfl) ?_
  by_cases c : t = tieOf u v
  ·simp only [if_pos c]
   exact Ev.val (by simp [c])
  ·simp only [if_neg c]
   have := ih (q ++ [t]) (by simp) (by simpa using ht)
   refine Ev.eq (by simpa using this) ?_
   have c' : ¬ tieOf u v = t := fun e => c e.symm
   simp [c']
theorem fresh_l0 (n : Int) (E taken : List S59) (ks : List Int) (hok : ok n E) (ht : (taken.length : Int) < big) (hk : (ks.length : Int) < big) : ∀ (suf p : List Int), ((p ++ suf).length : Int) < big →
  ∃ b, Ev (fun k => spec_l22Fresh.l0 k taken ks (p ++ suf) (p.length : Int) n E) b ∧ (b = true ↔ scan n E taken ks p suf) := by
 have hE : (E.length : Int) < big := by have := ok_len hok; unfold big; omega
 intro suf
 induction suf with
 | nil =>
  intro p hb
  exact ⟨true, Ev.step (fun k => by simp only [spec_l22Fresh.l0, nlt_end, if_false] <;> exact rfl) (Ev.val rfl), by simp [scan]⟩
 | cons v suf ih =>
  intro p hb
  have hl : (p.length : Int) < big := len_mid hb
  have hs : wrap64 ((p.length : Int) + 1) = ((p ++ [v]).length : Int) := w_succ hl
  obtain ⟨b1, e1, h1⟩ := ih (p ++ [v]) (len_app hb)
  rw [← app_one] at e1
  -- behind the test of what is between the ends
  have J3 : ∃ b, Ev (fun k => spec_l22Fresh.j3 k taken ks (p ++ v :: suf) (p.length : Int) false n E) b ∧ (b = true ↔ (∀ q u, p = q ++ [u] → tieOf u v ∈ E ∧ tieOf u v ∉ taken) ∧ scan n E taken ks (p ++ [v]) suf) := by
   rcases List.eq_nil_or_concat p with rfl | ⟨q, u, rfl⟩
   ·refine ⟨b1, Ev.step (fun k => by simp only [spec_l22Fresh.j3, Bool.false_eq_true, if_false, List.length_nil, Int.natCast_zero, if_true] <;> exact rfl) ?_, ?_⟩
    ·have := hs
     simp only [List.length_nil, Int.natCast_zero] at this
     rw [this]; exact e1
    ·rw [h1]
     exact ⟨fun x => ⟨fun q u e => by simp at e, x⟩, fun x => x.2⟩
   ·rw [List.concat_eq_append] at *
    have c0 : ¬ ((q ++ [u]).length : Int) = 0 := by simp; omega
    have c1 : 0 ≤ wrap64 (((q ++ [u]).length : Int) - 1) := by rw [len_pred q u hl]; exact nn _
    have c2 : wrap64 (((q ++ [u]).length : Int) - 1) < (((q ++ [u]) ++ v :: suf).length : Int) := by rw [len_pred q u hl]; exact lt_mid2 q u (v :: suf)
    have r1 : rd ((q ++ [u]) ++ v :: suf) (wrap64 (((q ++ [u]).length : Int) - 1)) = u := by rw [len_pred q u hl, mid_one]; exact rd_mid q u (v :: suf)
    have L1 := fresh_l1 n E taken ks q u v suf b1 hb e1 taken [] rfl ht
    have base : ∀ k, spec_l22Fresh.j3 (k + 1) taken ks ((q ++ [u]) ++ v :: suf) ((q ++ [u]).length : Int) false n E = (spec_NetHas.f k n E u v).bind fun t => if t = true then spec_l22Fresh.l1 k taken ks ((q ++ [u]) ++ v :: suf) ((q ++ [u]).length : Int) 0 n E else some false := fun k => by
     simp only [spec_l22Fresh.j3, Bool.false_eq_true, if_false, if_neg c0, if_pos c1, if_pos c2, nn, lt_mid, if_true, r1, rd_mid]
    by_cases c : tieOf u v ∈ E
    ·refine ⟨!decide (tieOf u v ∈ taken) && b1, Ev.step base (Ev.bind (specHas_ev n u v E hE) ?_), ?_⟩
     ·rw [decide_eq_true (⟨hok, c⟩ : ok n E ∧ tieOf u v ∈ E)]
      exact L1
     ·simp only [Bool.and_eq_true, Bool.not_eq_true', decide_eq_false_iff_not, h1]
      constructor
      ·rintro ⟨x, y⟩
       refine ⟨fun q' u' e => ?_, y⟩
       obtain ⟨rfl, e2⟩ := List.append_inj' e rfl
       injection e2 with e2
       subst e2
       exact ⟨c, x⟩
      ·rintro ⟨x, y⟩
       exact ⟨(x q u rfl).2, y⟩
    ·refine ⟨false, Ev.step base (Ev.bind (specHas_ev n u v E hE) ?_), ?_⟩
     ·rw [decide_eq_false (fun h => c h.2)]
      exact Ev.val rfl
     ·simp only [Bool.false_eq_true, false_iff]
      exact fun h => c (h.1 q u rfl).1
  have J3t : Ev (fun k => spec_l22Fresh.j3 k taken ks (p ++ v :: suf) (p.length : Int) true n E) false := Ev.step (fun k => by simp only [spec_l22Fresh.j3, if_true] <;> exact rfl) (Ev.val rfl)
  obtain ⟨b3, e3, h3⟩ := J3
  -- whether it is between the ends
  have J2 : ∀ d : Bool, (d = true ↔ p ≠ [] ∧ suf ≠ []) → ∃ b, Ev (fun k => spec_l22Fresh.j2 k taken ks (p ++ v :: suf) (p.length : Int) d n E) b ∧ (b = true ↔ scan n E taken ks p (v :: suf)) := by
   intro d hd
   have base : ∀ k, spec_l22Fresh.j2 (k + 1) taken ks (p ++ v :: suf) (p.length : Int) d n E = (spec_l1Knot.f k n E v).bind fun t => (if t = true then (if d = true then ((spec_l2Has.f k ks v).bind fun t2 => (if t2 = true then (spec_l22Fresh.j3 k taken ks (p ++ v :: suf) (p.length : Int) true n E) else (if (p.length : Int) ≤ ((p ++ v :: suf).length : Int) then ((spec_l2Has.f k ((p ++ v :: suf).take ((p.length : Int)).toNat) v).bind fun t3 => (spec_l22Fresh.j3 k taken ks (p ++ v :: suf) (p.length : Int) t3 n E)) else (none)))) else (spec_l22Fresh.j3 k taken ks (p ++ v :: suf) (p.length : Int) false n E)) else (spec_l22Fresh.j3 k taken ks (p ++ v :: suf) (p.length : Int) true n E)) := fun k => by
    simp only [spec_l22Fresh.j2, nn, lt_mid, if_true, rd_mid]
   have cl : (p.length : Int) ≤ ((p ++ v :: suf).length : Int) := Int.le_of_lt (lt_mid p v suf)
   have et : (p ++ v :: suf).take ((p.length : Int)).toNat = p := by simp
   by_cases k1 : 0 ≤ v ∧ v < n
   ·have K := Ev.eq (l1Knot_ev n v E hE) (decide_eq_true (⟨hok, k1⟩ : ok n E ∧ 0 ≤ v ∧ v < n))
    cases d with
    | false =>
     have hd' : ¬ (p ≠ [] ∧ suf ≠ []) := fun x => Bool.noConfusion (hd.2 x)
     refine ⟨b3, Ev.step base (Ev.bind K (by simp only [if_true, Bool.false_eq_true, if_false]; exact e3)), ?_⟩
     rw [h3]
     simp only [scan]
     exact ⟨fun x => ⟨k1, fun a b => absurd ⟨a, b⟩ hd', x.1, x.2⟩, fun x => ⟨x.2.2.1, x.2.2.2⟩⟩
    | true =>
     have hd' := hd.1 rfl
     by_cases k2 : v ∈ ks
     ·refine ⟨false, Ev.step base (Ev.bind K ?_), ?_⟩
      ·simp only [if_true]
       exact Ev.bind (Ev.eq (l2Has_ev ks v hk) (decide_eq_true k2)) (by simp only [if_true]; exact J3t)
      ·simp only [scan, Bool.false_eq_true, false_iff]
       exact fun x => (x.2.1 hd'.1 hd'.2).1 k2
     ·by_cases k3 : v ∈ p
      ·refine ⟨false, Ev.step base (Ev.bind K ?_), ?_⟩
       ·simp only [if_true]
        refine Ev.bind (Ev.eq (l2Has_ev ks v hk) (decide_eq_false k2)) ?_
        simp only [Bool.false_eq_true, if_false, if_pos cl, et]
        exact Ev.bind (Ev.eq (l2Has_ev p v hl) (decide_eq_true k3)) J3t
       ·simp only [scan, Bool.false_eq_true, false_iff]
        exact fun x => (x.2.1 hd'.1 hd'.2).2 k3
      ·refine ⟨b3, Ev.step base (Ev.bind K ?_), ?_⟩
       ·simp only [if_true]
        refine Ev.bind (Ev.eq (l2Has_ev ks v hk) (decide_eq_false k2)) ?_
        simp only [Bool.false_eq_true, if_false, if_pos cl, et]
        exact Ev.bind (Ev.eq (l2Has_ev p v hl) (decide_eq_false k3)) e3
       ·rw [h3]
        simp only [scan]
        exact ⟨fun x => ⟨k1, fun _ _ => ⟨k2, k3⟩, x.1, x.2⟩, fun x => ⟨x.2.2.1, x.2.2.2⟩⟩
   ·refine ⟨false, Ev.step base (Ev.bind (Ev.eq (l1Knot_ev n v E hE) (decide_eq_false (fun x => k1 x.2))) (by simp only [Bool.false_eq_true, if_false]; exact J3t)), ?_⟩
    simp only [scan, Bool.false_eq_true, false_iff]
    exact fun x => k1 x.1
  by_cases cp : (p.length : Int) > 0
  ·have cp' : p ≠ [] := fun e => by rw [e] at cp; simp at cp
   obtain ⟨b, e2, h2⟩ := J2 (decide (wrap64 ((p.length : Int) + 1) < ((p ++ v :: suf).length : Int))) (by
    rw [hs, decide_eq_true_eq]
    constructor
    ·intro x; refine ⟨cp', fun e => ?_⟩; subst e; simp at x
    ·rintro ⟨_, x⟩
     have : 0 < suf.length := List.length_pos_iff.2 x
     simp; omega)
   exact ⟨b, Ev.step (fun k => by simp only [spec_l22Fresh.l0, lt_mid, if_true, if_pos cp] <;> exact rfl) e2, h2⟩
  ·have cp' : p = [] := List.eq_nil_of_length_eq_zero (by omega)
   obtain ⟨b, e2, h2⟩ := J2 false (by simp [cp'])
   exact ⟨b, Ev.step (fun k => by simp only [spec_l22Fresh.l0, lt_mid, if_true, if_neg cp] <;> exact rfl) e2, h2⟩
theorem scan_mid (n : Int) (E taken : List Tie) (ks : List Int) (z : Int) : ∀ (mid p : List Int) (u : Int), scan n E taken ks (p ++ [u]) (mid ++ [z]) ↔
  (∀ v ∈ mid ++ [z], 0 ≤ v ∧ v < n) ∧ (∀ t ∈ ties (u :: (mid ++ [z])), t ∈ E ∧ t ∉ taken) ∧ (∀ v ∈ mid, v ∉ ks ∧ v ∉ p ++ [u]) ∧ mid.Nodup
 | [], p, u => by
  simp only [List.nil_append, scan, List.mem_singleton, ties, forall_eq, List.not_mem_nil, false_implies, implies_true, List.nodup_nil, and_true, ne_eq, not_true_eq_false]
  constructor
  ·rintro ⟨h1, _, h2⟩
   exact ⟨h1, by simpa using h2 p u rfl⟩
  ·rintro ⟨h1, h2⟩
   refine ⟨h1, trivial, fun q u' e => ?_⟩
   obtain ⟨rfl, e2⟩ := List.append_inj' e rfl
   injection e2 with e2
   subst e2
   simpa using h2
 | v :: mid, p, u => by
  have ih := scan_mid n E taken ks z mid (p ++ [u]) v
  simp only [List.cons_append, scan, ih]
  constructor
  ·rintro ⟨h1, h2, h3, h4, h5, h6, h7⟩
   have h2' := h2 (by simp) (by simp)
   refine ⟨?_, ?_, ?_, ?_⟩
   ·intro w hw
    rcases List.mem_cons.1 hw with rfl | hw
    ·exact h1
    ·exact h4 w hw
   ·intro t ht
    simp only [ties, List.mem_cons] at ht
    rcases ht with rfl | ht
    ·exact h3 p u rfl
    ·exact h5 t ht
   ·intro w hw
    rcases List.mem_cons.1 hw with rfl | hw
    ·exact h2'
    ·exact ⟨(h6 w hw).1, fun k => (h6 w hw).2 (List.mem_append_left _ k)⟩
   ·refine List.nodup_cons.2 ⟨fun k => (h6 v k).2 (by simp), h7⟩
  ·rintro ⟨h1, h2, h3, h4⟩
   rw [List.nodup_cons] at h4
   refine ⟨h1 v (by simp), fun _ _ => h3 v (by simp), fun q u' e => ?_, fun w hw => h1 w (List.mem_cons_of_mem _ hw), fun t ht => h2 t (by simp only [ties, List.mem_cons]; exact Or.inr ht), fun w hw => ⟨(h3 w (by simp [hw])).1, fun k => ?_⟩, h4.2⟩
   ·obtain ⟨rfl, e2⟩ := List.append_inj' e rfl
    injection e2 with e2
    subst e2
    exact h2 _ (by simp [ties])
   ·rcases List.mem_append.1 k with k | k
    ·exact (h3 w (by simp [hw])).2 k
    ·rw [List.mem_singleton] at k
     subst k
     exact h4.1 hw
theorem scan_iff (n : Int) (E taken : List Tie) (ks : List Int) (a : Int) (m : List Int) (z : Int) : scan n E taken ks [] (a :: (m ++ [z])) ↔
  (∀ v ∈ a :: (m ++ [z]), 0 ≤ v ∧ v < n) ∧ (∀ t ∈ ties (a :: (m ++ [z])), t ∈ E ∧ t ∉ taken) ∧ (∀ v ∈ m, v ∉ ks ∧ v ≠ a) ∧ m.Nodup := by
 have h := scan_mid n E taken ks z m [] a
 simp only [List.nil_append] at h
 simp only [scan, List.nil_append, h]
 constructor
 ·rintro ⟨h1, _, _, h2, h3, h4, h5⟩
  exact ⟨fun v hv => (List.mem_cons.1 hv).elim (fun e => e ▸ h1) (h2 v), h3, fun v hv => ⟨(h4 v hv).1, fun e => (h4 v hv).2 (by simp [e])⟩, h5⟩
 ·rintro ⟨h1, h2, h3, h4⟩
  exact ⟨h1 a (by simp), fun h => absurd rfl h, fun p u e => by simp at e, fun v hv => h1 v (List.mem_cons_of_mem _ hv), h2, fun v hv => ⟨(h3 v hv).1, fun k => (h3 v hv).2 (List.mem_singleton.1 k)⟩, h4⟩
theorem rd_hd (row : List Int) : rd row 0 = hdOf row := rfl
theorem rd_lst {row : List Int} (h : 0 < row.length) (hb : (row.length : Int) < big) : rd row (wrap64 ((row.length : Int) - 1)) = lstOf row ∧ 0 ≤ wrap64 ((row.length : Int) - 1) ∧ wrap64 ((row.length : Int) - 1) < (row.length : Int) := by
 rcases List.eq_nil_or_concat row with rfl | ⟨q, u, rfl⟩
 ·simp at h
 ·rw [List.concat_eq_append] at *
  have hl : ((q ++ [u]).length : Int) < big := hb
  rw [len_pred q u hl]
  refine ⟨?_, nn _, by simp; omega⟩
  have := rd_mid q u []
  unfold lstOf
  rw [List.getLastD_concat]
  exact this
theorem open_eq (row : List Int) (h : 0 < row.length) (hb : (row.length : Int) < big) : spec_l22Open.f row = some (hdOf row != lstOf row) := by
 obtain ⟨h1, h2, h3⟩ := rd_lst h hb
 have c : (row.length : Int) > 0 := by omega
 have c' : 0 < (row.length : Int) := by omega
 unfold spec_l22Open.f
 rw [if_pos c, if_pos c', if_pos h2, if_pos h3, h1]
 rfl
theorem fresh_ev (n : Int) (E taken : List S59) (ks row : List Int) (first : Bool) (hok : ok n E) (ht : (taken.length : Int) < big) (hk : (ks.length : Int) < big) (hb : (row.length : Int) < big) :
  ∃ b, Ev (fun k => spec_l22Fresh.f k n E taken ks row first) b ∧ (b = true ↔ earOk n E taken ks first row) := by
 have F : Ev (fun k => spec_l22Fresh.j0 k taken ks row true n E) false := Ev.step (fun k => by simp only [spec_l22Fresh.j0, if_true] <;> exact rfl) (Ev.val rfl)
 unfold spec_l22Fresh.f
 by_cases c : (row.length : Int) < 2
 ·simp only [if_pos c]
  exact ⟨false, F, by simp only [Bool.false_eq_true, false_iff]; intro h; have := h.len; omega⟩
 ·have hl : 2 ≤ row.length := by omega
  have h0 : 0 < row.length := by omega
  obtain ⟨b0, e0, hs⟩ := fresh_l0 n E taken ks hok ht hk row [] (by simpa using hb)
  simp only [List.nil_append, List.length_nil, Int.natCast_zero] at e0
  have G : Ev (fun k => spec_l22Fresh.j0 k taken ks row false n E) b0 := Ev.step (fun k => by simp only [spec_l22Fresh.j0, Bool.false_eq_true, if_false] <;> exact rfl) e0
  obtain ⟨r1, r2, r3⟩ := rd_lst h0 hb
  have hp : 0 < (row.length : Int) := by omega
  have op := open_eq row h0 hb
  have main : b0 = true ↔ (∀ v ∈ row, 0 ≤ v ∧ v < n) ∧ (∀ t ∈ ties row, t ∈ E ∧ t ∉ taken) ∧ (∀ v ∈ midOf row, v ∉ ks ∧ v ≠ hdOf row) ∧ (midOf row).Nodup := by
   rw [hs]
   obtain ⟨a, m, z, rfl⟩ := row_parts hl
   rw [mid_parts, hd_parts]
   exact scan_iff n E taken ks a m z
  simp only [if_neg c]
  -- the test of the ends
  have ends : ∀ good : Prop, ∀ (x : Bool), (x = false ↔ good) → (∀ b : Bool, (b = true ↔ good ∧ b0 = true) → Ev (fun k => spec_l22Fresh.j0 k taken ks row x n E) b) := by
   intro good x hx b hb'
   cases x with
   | true =>
    have : ¬ good := fun g => Bool.noConfusion (hx.2 g)
    have e : b = false := Bool.eq_false_iff.2 (fun e => this (hb'.1 e).1)
    rw [e]; exact F
   | false =>
    have g := hx.1 rfl
    have e : b = b0 := by
     cases b0
     ·exact Bool.eq_false_iff.2 (fun e => Bool.noConfusion (hb'.1 e).2)
     ·exact hb'.2 ⟨g, rfl⟩
    rw [e]; exact G
  cases first with
  | true =>
   simp only [if_true]
   by_cases o : hdOf row = lstOf row
   ·have ob : (hdOf row != lstOf row) = false := by simp [o]
    refine ⟨decide (4 ≤ row.length) && b0, ?_, ?_⟩
    ·refine Ev.const op ?_
     simp only [ob, Bool.false_eq_true, if_false]
     by_cases l4 : (row.length : Int) < 4
     ·simp only [if_pos l4]
      refine Ev.eq F ?_
      rw [decide_eq_false (by omega)]; rfl
     ·simp only [if_neg l4]
      refine Ev.const op ?_
      simp only [ob, Bool.false_eq_true, if_false]
      refine ends True _ (by simp [l4]) _ ?_
      simp; omega
    ·rw [Bool.and_eq_true, main, decide_eq_true_eq]
     constructor
     ·rintro ⟨l4, h1, h2, h3, h4⟩
      exact ⟨hl, h1, fun t h => (h2 t h).1, fun _ => o, fun h => Bool.noConfusion h, fun _ => l4, h4, h3, fun t h => (h2 t h).2⟩
     ·intro h
      exact ⟨h.long o, h.knots, fun t k => ⟨h.tied t k, h.new t k⟩, h.apart, h.mid⟩
   ·have ob : (hdOf row != lstOf row) = true := by simp [o]
    refine ⟨false, ?_, ?_⟩
    ·refine Ev.const op ?_
     simp only [ob, if_true]
     exact F
    ·simp only [Bool.false_eq_true, false_iff]
     exact fun h => o (h.ring rfl)
  | false =>
   simp only [Bool.false_eq_true, if_false, if_pos hp, if_pos r2, if_pos r3, r1, rd_hd]
   by_cases k1 : hdOf row ∈ ks
   ·by_cases k2 : lstOf row ∈ ks
    ·refine ⟨decide (hdOf row = lstOf row → 4 ≤ row.length) && b0, ?_, ?_⟩
     ·refine Ev.bind (Ev.eq (l2Has_ev ks _ hk) (decide_eq_true k1)) ?_
      simp only [if_true]
      refine Ev.bind (Ev.eq (l2Has_ev ks _ hk) (decide_eq_true k2)) ?_
      simp only [if_true]
      refine Ev.const op ?_
      by_cases o : hdOf row = lstOf row
      ·have ob : (hdOf row != lstOf row) = false := by simp [o]
       simp only [ob, Bool.false_eq_true, if_false]
       exact ends (4 ≤ row.length) _ (by rw [decide_eq_false_iff_not]; omega) _ (by rw [Bool.and_eq_true, decide_eq_true_eq]; exact ⟨fun h => ⟨h.1 o, h.2⟩, fun h => ⟨fun _ => h.1, h.2⟩⟩)
      ·have ob : (hdOf row != lstOf row) = true := by simp [o]
       simp only [ob, if_true]
       exact ends True _ (by simp) _ (by rw [Bool.and_eq_true, decide_eq_true_eq]; exact ⟨fun h => ⟨trivial, h.2⟩, fun h => ⟨fun e => absurd e o, h.2⟩⟩)
     ·rw [Bool.and_eq_true, main, decide_eq_true_eq]
      constructor
      ·rintro ⟨l4, h1, h2, h3, h4⟩
       exact ⟨hl, h1, fun t h => (h2 t h).1, fun h => Bool.noConfusion h, fun _ => ⟨k1, k2⟩, l4, h4, h3, fun t h => (h2 t h).2⟩
      ·intro h
       exact ⟨h.long, h.knots, fun t k => ⟨h.tied t k, h.new t k⟩, h.apart, h.mid⟩
    ·refine ⟨false, ?_, ?_⟩
     ·refine Ev.bind (Ev.eq (l2Has_ev ks _ hk) (decide_eq_true k1)) ?_
      simp only [if_true]
      refine Ev.bind (Ev.eq (l2Has_ev ks _ hk) (decide_eq_false k2)) ?_
      simp only [Bool.false_eq_true, if_false]
      exact F
     ·simp only [Bool.false_eq_true, false_iff]
      exact fun h => k2 (h.ends rfl).2
   ·refine ⟨false, ?_, ?_⟩
    ·refine Ev.bind (Ev.eq (l2Has_ev ks _ hk) (decide_eq_false k1)) ?_
     simp only [Bool.false_eq_true, if_false]
     exact F
    ·simp only [Bool.false_eq_true, false_iff]
     exact fun h => k1 (h.ends rfl).1
end Go.Proofs.Ytgeonpciodepgaa.P

namespace Go.Proofs.Ytgeonpciodepgaa.P
open Go.RowKit Go.Proofs.YtgeonpciodepgaaW.PrintWords Go.Proofs.Ytgeonpciodepgaa.G
theorem rdL2_mid (pre : List (List Int)) (t : List Int) (suf : List (List Int)) : rd_L2 (pre ++ t :: suf) (pre.length : Int) = t := by
 unfold rd_L2
 exact getD_mid pre t suf _
def tot : List (List Int) → Nat
 | [] => 0
 | r :: rs => r.length + tot rs
theorem addAll_one (ks p : List Int) (v : Int) : addAll ks (p ++ [v]) = if v ∈ addAll ks p then addAll ks p else addAll ks p ++ [v] := by rw [addAll_app]; rfl
theorem ties_one (q : List Int) (u v : Int) : ties (q ++ [u]) ++ [tieOf u v] = ties ((q ++ [u]) ++ [v]) := by
 rw [show (q ++ [u]) ++ [v] = q ++ [u, v] by simp, ties_snoc]
theorem ears_l1 (n : Int) (E T : List S59) (pe se : List (List Int)) (row ks : List Int) (b : Bool) (hpe : ((pe ++ row :: se).length : Int) < big) (hT : T.length + row.length < 4000000) (hk : ks.length + row.length < 4000000)
  (h : Ev (fun k => spec_EarOk.l0 k (pe ++ row :: se) (T ++ ties row) (addAll ks row) ((pe ++ [row]).length : Int) n E) b) : ∀ (suf p : List Int), row = p ++ suf →
  Ev (fun k => spec_EarOk.l1 k (pe ++ row :: se) (T ++ ties p) (addAll ks p) (pe.length : Int) (p.length : Int) n E) b := by
 have hpl : (pe.length : Int) < big := len_mid hpe
 intro suf
 induction suf with
 | nil =>
  intro p e
  rw [List.append_nil] at e
  subst e
  have c : ¬ (row.length : Int) < (row.length : Int) := by omega
  exact Ev.step (fun k => by simp only [spec_EarOk.l1, nn, lt_mid, if_true, rdL2_mid, if_neg c, w_succ (t := row) hpl] <;> exact rfl) h
 | cons v suf ih =>
  intro p e
  have c1 : (p.length : Int) < (row.length : Int) := by rw [e]; exact lt_mid p v suf
  have rv : rd row (p.length : Int) = v := by rw [e]; exact rd_mid p v suf
  have hpb : (p.length : Int) < big := by unfold big; omega
  have hs : wrap64 ((p.length : Int) + 1) = ((p ++ [v]).length : Int) := w_succ hpb
  have nxt := ih (p ++ [v]) (by rw [e]; simp)
  have hl := addAll_len_le p ks
  have hkb : ((addAll ks p).length : Int) < big := by unfold big; omega
  have hk8 : (addAll ks p).length < 17592186044416 := by omega
  rcases List.eq_nil_or_concat p with rfl | ⟨q, u, rfl⟩
  ·have c0 : ¬ (([] : List Int).length : Int) > 0 := by simp
   have et : T ++ ties [] = T ++ ties ([] ++ [v]) := by simp [ties]
   refine Ev.step (fun k => by simp only [spec_EarOk.l1, nn, lt_mid, if_true, rdL2_mid, if_pos c1, if_neg c0, rv, hs] <;> exact rfl) (Ev.bind (l2Has_ev _ v hkb) ?_)
   by_cases m : v ∈ addAll ks []
   ·rw [decide_eq_true m]
    simp only [if_true]
    rw [addAll_one, if_pos m] at nxt
    rw [et]
    exact nxt
   ·rw [decide_eq_false m]
    simp only [Bool.false_eq_true, if_false, if_pos hk8]
    rw [addAll_one, if_neg m] at nxt
    rw [et]
    exact nxt
  ·rw [List.concat_eq_append] at *
   have c0 : ((q ++ [u]).length : Int) > 0 := by simp
   have c2 : 0 ≤ wrap64 (((q ++ [u]).length : Int) - 1) := by rw [len_pred q u hpb]; exact nn _
   have c3 : wrap64 (((q ++ [u]).length : Int) - 1) < (row.length : Int) := by rw [len_pred q u hpb]; simp at c1; omega
   have ru : rd row (wrap64 (((q ++ [u]).length : Int) - 1)) = u := by rw [len_pred q u hpb, e, mid_one]; exact rd_mid q u (v :: suf)
   have h5 : (T ++ ties (q ++ [u])).length < 8796093022208 := by rw [List.length_append, ties_len]; omega
   have et : (T ++ ties (q ++ [u])) ++ [(⟨(tieOf u v).f0, (tieOf u v).f1⟩ : S59)] = T ++ ties ((q ++ [u]) ++ [v]) := by rw [List.append_assoc, ← ties_one]
   refine Ev.step (fun k => by simp only [spec_EarOk.l1, nn, lt_mid, if_true, rdL2_mid, if_pos c1, if_pos c0, if_pos c2, if_pos c3, ru, rv, hs, l1Tie_eq, Option.bind_some, if_pos h5, et] <;> exact rfl) (Ev.bind (l2Has_ev _ v hkb) ?_)
   by_cases m : v ∈ addAll ks (q ++ [u])
   ·rw [decide_eq_true m]
    simp only [if_true]
    rw [addAll_one, if_pos m] at nxt
    exact nxt
   ·rw [decide_eq_false m]
    simp only [Bool.false_eq_true, if_false, if_pos hk8]
    rw [addAll_one, if_neg m] at nxt
    exact nxt
theorem ears_l0 (n : Int) (E : List S59) (hok : ok n E) : ∀ (se pe : List (List Int)) (T : List S59) (ks : List Int), ((pe ++ se).length : Int) < big → T.length + tot se < 4000000 → ks.length + tot se < 4000000 →
  ∃ b, Ev (fun k => spec_EarOk.l0 k (pe ++ se) T ks (pe.length : Int) n E) b ∧ (b = true ↔ earsOk n E ((pe.length : Int) == 0) T ks se) := by
 intro se
 induction se with
 | nil =>
  intro pe T ks hb hT hk
  by_cases c : (T.length : Int) = (E.length : Int)
  ·refine ⟨(ks.length : Int) == n, Ev.step (fun k => by simp only [spec_EarOk.l0, nlt_end, if_false, if_pos c] <;> exact rfl) (Ev.val rfl), ?_⟩
   simp only [earsOk, beq_iff_eq]
   exact ⟨fun h => ⟨by omega, h⟩, fun h => h.2⟩
  ·refine ⟨false, Ev.step (fun k => by simp only [spec_EarOk.l0, nlt_end, if_false, if_neg c] <;> exact rfl) (Ev.val rfl), ?_⟩
   simp only [earsOk, Bool.false_eq_true, false_iff]
   exact fun h => c (by omega)
 | cons row se ih =>
  intro pe T ks hb hT hk
  simp only [tot] at hT hk
  obtain ⟨b1, e1, h1⟩ := fresh_ev n E T ks row ((pe.length : Int) == 0) hok (by unfold big; omega) (by unfold big; omega) (by unfold big; omega)
  have base : ∀ k, spec_EarOk.l0 (k + 1) (pe ++ row :: se) T ks (pe.length : Int) n E = (spec_l22Fresh.f k n E T ks row ((pe.length : Int) == 0)).bind fun t => if t = true then spec_EarOk.l1 k (pe ++ row :: se) T ks (pe.length : Int) 0 n E else some false := fun k => by
   simp only [spec_EarOk.l0, lt_mid, nn, if_true, rdL2_mid]
  cases b1 with
  | false =>
   refine ⟨false, Ev.step base (Ev.bind e1 (by simp only [Bool.false_eq_true, if_false]; exact Ev.val rfl)), ?_⟩
   simp only [earsOk, Bool.false_eq_true, false_iff]
   exact fun h => Bool.noConfusion (h1.2 h.1)
  | true =>
   have hl := addAll_len_le row ks
   obtain ⟨b2, e2, h2⟩ := ih (pe ++ [row]) (T ++ ties row) (addAll ks row) (by simpa using hb) (by rw [List.length_append, ties_len]; omega) (by omega)
   rw [show (pe ++ [row]) ++ se = pe ++ row :: se by simp] at e2
   have f : ((((pe ++ [row]).length : Nat) : Int) == 0) = false := by rw [beq_eq_false_iff_ne]; simp; omega
   rw [f] at h2
   have L := ears_l1 n E T pe se row ks b2 hb (by omega) (by omega) e2 row [] rfl
   refine ⟨b2, Ev.step base (Ev.bind e1 ?_), ?_⟩
   ·simp only [if_true]
    simpa [ties, addAll] using L
   ·simp only [earsOk, h2]
    exact ⟨fun h => ⟨h1.1 rfl, h⟩, fun h => h.2⟩
def earAll (n : Int) (E : List Tie) (ears : List (List Int)) : Prop := ok n E ∧ ears ≠ [] ∧ earsOk n E true [] [] ears
theorem specEarOk_ev (n : Int) (E : List S59) (ears : List (List Int)) (hE : (E.length : Int) < big) (hb : (ears.length : Int) < big) (hT : tot ears < 4000000) :
  ∃ b, Ev (fun k => spec_EarOk.f k n E ears) b ∧ (b = true ↔ earAll n E ears) := by
 have F : Ev (fun k => spec_EarOk.j0 k ears true n E) false := Ev.step (fun k => by simp only [spec_EarOk.j0, if_true] <;> exact rfl) (Ev.val rfl)
 unfold spec_EarOk.f
 by_cases c : ok n E
 ·have K := Ev.eq (specOk n E hE) (decide_eq_true c)
  by_cases c1 : (ears.length : Int) < 1
  ·refine ⟨false, Ev.bind K (by simp only [if_true, if_pos c1]; exact F), ?_⟩
   simp only [Bool.false_eq_true, false_iff]
   exact fun h => h.2.1 (List.eq_nil_of_length_eq_zero (by omega))
  ·obtain ⟨b, e, h⟩ := ears_l0 n E c ears [] [] [] (by simpa using hb) (by simpa using hT) (by simpa using hT)
   simp only [List.nil_append, List.length_nil, Int.natCast_zero, beq_self_eq_true] at e h
   have ne : ears ≠ [] := fun x => c1 (by rw [x]; simp)
   by_cases c2 : (ears.length : Int) > (E.length : Int)
   ·refine ⟨false, Ev.bind K (by simp only [if_true, if_neg c1, decide_eq_true c2]; exact F), ?_⟩
    simp only [Bool.false_eq_true, false_iff]
    intro x
    have := ears_len _ _ _ _ x.2.2
    simp at this
    omega
   ·refine ⟨b, Ev.bind K ?_, ?_⟩
    ·simp only [if_true, if_neg c1, decide_eq_false c2]
     exact Ev.step (fun k => by simp only [spec_EarOk.j0, Bool.false_eq_true, if_false] <;> exact rfl) e
    ·rw [h]
     exact ⟨fun x => ⟨c, ne, x⟩, fun x => x.2.2⟩
 ·refine ⟨false, Ev.bind (Ev.eq (specOk n E hE) (decide_eq_false c)) (by simp only [Bool.false_eq_true, if_false]; exact F), ?_⟩
  simp only [Bool.false_eq_true, false_iff]
  exact fun x => c x.1
end Go.Proofs.Ytgeonpciodepgaa.P

namespace Go.Proofs.Ytgeonpciodepgaa.P
open Go.RowKit Go.Proofs.YtgeonpciodepgaaW.PrintWords Go.Proofs.Ytgeonpciodepgaa.G
theorem rdC_mid (pre : List S59) (t : S59) (suf : List S59) : rd_T59 (pre ++ t :: suf) (pre.length : Int) = t := by
 unfold rd_T59; exact getD_mid pre t suf _
theorem tie_beq2 (a b : Int) (t : Tie) : (a == t.f0 && (b == t.f1)) = decide ((⟨a, b⟩ : Tie) = t) := by
 obtain ⟨c, d⟩ := t
 simp only [Tie.mk.injEq]
 by_cases h : a = c <;> by_cases k : b = d <;> simp [h, k]
theorem indexTie_l0 (a b : Int) : ∀ (suf p : List S59), ((p ++ suf).length : Int) < big →
  ∃ r, Ev (fun k => slices_Index_impl_Tie_impl_Tie.l0 k (p ++ suf) ((p ++ suf).length : Int) (p.length : Int) a b) r ∧ (r ≥ 0 ↔ (⟨a, b⟩ : Tie) ∈ suf) := by
 intro suf
 induction suf with
 | nil =>
  intro p hb
  refine ⟨-1, Ev.step (fun k => by simp only [slices_Index_impl_Tie_impl_Tie.l0, nlt_end, if_false] <;> exact rfl) (Ev.val rfl), by simp⟩
 | cons t suf ih =>
  intro p hb
  have hp : (p.length : Int) < big := len_mid hb
  by_cases c : (⟨a, b⟩ : Tie) = t
  ·refine ⟨p.length, ?_, ?_⟩
   ·refine Ev.step (fun k => by simp only [slices_Index_impl_Tie_impl_Tie.l0, lt_mid, nn, if_true, rdC_mid, w_succ (t := t) hp, tie_beq2, decide_eq_true_eq, if_pos c] <;> exact rfl) ?_
    exact Ev.val rfl
   ·simp [c]
  ·obtain ⟨r, hr, hi⟩ := ih (p ++ [t]) (len_app hb)
   refine ⟨r, ?_, ?_⟩
   ·refine Ev.step (fun k => by simp only [slices_Index_impl_Tie_impl_Tie.l0, lt_mid, nn, if_true, rdC_mid, w_succ (t := t) hp, tie_beq2, decide_eq_true_eq, if_neg c] <;> exact rfl) ?_
    rw [app_one p t suf]
    exact hr
   ·rw [hi]; simp [c]
theorem containsTie_ev (E : List S59) (a b : Int) (hb : (E.length : Int) < big) : Ev (fun k => slices_Contains_impl_Tie_impl_Tie.f k E a b) (decide ((⟨a, b⟩ : Tie) ∈ E)) := by
 unfold slices_Contains_impl_Tie_impl_Tie.f slices_Index_impl_Tie_impl_Tie.f
 obtain ⟨r, hr, hi⟩ := indexTie_l0 a b E [] hb
 refine Ev.bind hr (Ev.val ?_)
 exact congrArg some (decide_eq_decide.2 hi)
end Go.Proofs.Ytgeonpciodepgaa.P

namespace Go.Proofs.Ytgeonpciodepgaa.P
open Go.RowKit Go.Proofs.YtgeonpciodepgaaW.PrintWords Go.Proofs.Ytgeonpciodepgaa.G
theorem knot_eq (n a : Int) (E : List S59) : impl_Net_knot.f n E a = some (decide (0 ≤ a ∧ a < n)) := by
 unfold impl_Net_knot.f
 by_cases h : 0 ≤ a <;> simp [h]
theorem tie_eq (a b : Int) : impl_tie.f a b = some ((tieOf a b).f0, (tieOf a b).f1) := by
 unfold impl_tie.f tieOf mn mx
 rcases Int.lt_trichotomy a b with h | h | h
 ·simp [h]; omega
 ·subst h; simp
 ·have : ¬ a < b := by omega
  simp [this, h]
theorem has_ev (n a b : Int) (E : List S59) (hE : (E.length : Int) < big) : Ev (fun k => impl_Net_has.f k n E a b) (decide (tieOf a b ∈ E)) := by
 unfold impl_Net_has.f
 simp only [tie_eq, Option.bind_some]
 exact Ev.bind (containsTie_ev E _ _ hE) (Ev.val rfl)
def less (X gone : List Tie) : List Tie := X.filter fun s => !decide (s ∈ gone)
theorem less_one (X : List Tie) (t : Tie) : less X [t] = cut X t := by
 unfold less cut
 refine List.filter_congr (fun s _ => ?_)
 simp
theorem less_l0 (n m : Int) (gone : List S59) (hg : (gone.length : Int) < big) : ∀ (suf p q : List S59), ((p ++ suf).length : Int) ≤ 1048576 → q.length ≤ p.length →
  Ev (fun k => impl_Net_less.l0 k gone (p ++ suf) ((p ++ suf).length : Int) (p.length : Int) m q) (m, q ++ less suf gone) := by
 intro suf
 induction suf with
 | nil =>
  intro p q hb hq
  refine Ev.step (fun k => by simp only [impl_Net_less.l0, nlt_end, if_false] <;> exact rfl) ?_
  exact Ev.val (by simp [less])
 | cons t suf ih =>
  intro p q hb hq
  have hb' : ((p ++ t :: suf).length : Int) < big := by unfold big; omega
  have hp : (p.length : Int) < big := len_mid hb'
  have hq8 : q.length < 8796093022208 := by rw [List.length_append] at hb; omega
  refine Ev.step (fun k => by simp only [impl_Net_less.l0, lt_mid, nn, if_true, rdC_mid, w_succ (t := t) hp, hq8] <;> exact rfl) ?_
  refine Ev.bind (containsTie_ev gone _ _ hg) ?_
  by_cases c : t ∈ gone
  ·have c' : (⟨t.f0, t.f1⟩ : Tie) ∈ gone := c
   simp only [c', decide_true, if_true]
   rw [app_one p t suf]
   refine Ev.eq (ih (p ++ [t]) q (by rw [← app_one]; exact hb) (by simp; omega)) ?_
   simp [less, c]
  ·have c' : ¬ (⟨t.f0, t.f1⟩ : Tie) ∈ gone := c
   simp only [c', decide_false, Bool.false_eq_true, if_false]
   rw [app_one p t suf]
   refine Ev.eq (ih (p ++ [t]) (q ++ [t]) (by rw [← app_one]; exact hb) (by simp; omega)) ?_
   simp [less, c]
theorem less_ev (n : Int) (E gone : List S59) (hE : (E.length : Int) ≤ 1048576) (hg : (gone.length : Int) < big) : Ev (fun k => impl_Net_less.f k n E gone) (n, less E gone) := by
 unfold impl_Net_less.f
 exact less_l0 n n gone hg E [] [] hE (Nat.le_refl _)
theorem lessOne_ev (n : Int) (E : List S59) (t : Tie) (hE : (E.length : Int) ≤ 1048576) : Ev (fun k => impl_Net_less.f k n E [t]) (n, cut E t) := by
 rw [← less_one]
 exact less_ev n E [t] hE (by unfold big; simp)
end Go.Proofs.Ytgeonpciodepgaa.P

namespace Go.Proofs.Ytgeonpciodepgaa.P
open Go.RowKit Go.Proofs.YtgeonpciodepgaaW.PrintWords Go.Proofs.Ytgeonpciodepgaa.G
def walkOk (n : Int) (E : List Tie) (row : List Int) : Prop := (∀ v ∈ row, 0 ≤ v ∧ v < n) ∧ ∀ t ∈ ties row, t ∈ E
instance (n : Int) (E : List Tie) (row : List Int) : Decidable (walkOk n E row) := by unfold walkOk; infer_instance
theorem walk_l1 (n : Int) (E : List S59) (hE : (E.length : Int) < big) : ∀ (suf q : List Int) (a : Int), ((q ++ a :: suf).length : Int) < big →
  Ev (fun k => impl_Net_walk.l0 k (q ++ a :: suf) (q ++ a :: suf) ((q ++ a :: suf).length : Int) ((q.length : Int) + 1) n E) (decide ((∀ v ∈ suf, 0 ≤ v ∧ v < n) ∧ ∀ t ∈ ties (a :: suf), t ∈ E)) := by
 intro suf
 induction suf with
 | nil =>
  intro q a hb
  have c : ¬ (q.length : Int) + 1 < ((q ++ [a]).length : Int) := by simp
  refine Ev.step (fun k => by simp only [impl_Net_walk.l0, if_neg c] <;> exact rfl) (Ev.val ?_)
  simp [ties]
 | cons t suf ih =>
  intro q a hb
  have hl : (q ++ a :: t :: suf).length = q.length + (suf.length + 2) := by simp
  have hb2 : (q.length : Int) + (suf.length + 2) < 4611686018427387904 := by unfold big at hb; omega
  have c1 : (q.length : Int) + 1 < ((q ++ a :: t :: suf).length : Int) := by omega
  have c2 : 0 ≤ (q.length : Int) + 1 := by omega
  have c3 : (q.length : Int) + 1 > 0 := by omega
  have w1 : wrap64 ((q.length : Int) + 1 - 1) = (q.length : Int) := by rw [w64 (by omega) (by omega)]; omega
  have c4 : 0 ≤ (q.length : Int) := nn _
  have c5 : (q.length : Int) < ((q ++ a :: t :: suf).length : Int) := by omega
  have r1 : rd (q ++ a :: t :: suf) ((q.length : Int) + 1) = t := by
   have := rd_mid (q ++ [a]) t suf
   simpa using this
  have r2 : rd (q ++ a :: t :: suf) (q.length : Int) = a := rd_mid q a (t :: suf)
  have w2 : wrap64 ((q.length : Int) + 1 + 1) = ((q ++ [a]).length : Int) + 1 := by rw [w64 (by omega) (by omega)]; simp
  refine Ev.step (fun k => by simp only [impl_Net_walk.l0, if_pos c1, if_pos c2, r1, knot_eq, Option.bind_some] <;> exact rfl) ?_
  by_cases k1 : 0 ≤ t ∧ t < n
  ·rw [decide_eq_true k1]
   simp only [if_true, if_pos c3, w1, if_pos c4, if_pos c5, r2]
   refine Ev.bind (has_ev n a t E hE) ?_
   by_cases k2 : tieOf a t ∈ E
   ·rw [decide_eq_true k2]
    simp only [if_true, w2]
    have := ih (q ++ [a]) t (by simpa using hb)
    have e : (q ++ [a]) ++ t :: suf = q ++ a :: t :: suf := by simp
    rw [e] at this
    refine Ev.eq this ?_
    refine decide_eq_decide.2 ⟨fun h => ⟨fun v hv => ?_, fun s hs => ?_⟩, fun h => ⟨fun v hv => h.1 v (by simp [hv]), fun s hs => h.2 s (by simp [ties, hs])⟩⟩
    ·rcases List.mem_cons.1 hv with rfl | hv
     ·exact k1
     ·exact h.1 v hv
    ·simp only [ties, List.mem_cons] at hs
     rcases hs with rfl | hs
     ·exact k2
     ·exact h.2 s hs
   ·rw [decide_eq_false k2]
    simp only [Bool.false_eq_true, if_false]
    exact Ev.val (congrArg some (decide_eq_false (fun h => k2 (h.2 _ (by simp [ties])))).symm)
  ·rw [decide_eq_false k1]
   simp only [Bool.false_eq_true, if_false]
   exact Ev.val (congrArg some (decide_eq_false (fun h => k1 (h.1 t (by simp)))).symm)
theorem walk_ev (n : Int) (E : List S59) (row : List Int) (hE : (E.length : Int) < big) (hr : (row.length : Int) < big) : Ev (fun k => impl_Net_walk.f k n E row) (decide (walkOk n E row)) := by
 unfold impl_Net_walk.f walkOk
 cases row with
 | nil =>
  have c : ¬ (0 : Int) < (([] : List Int).length : Int) := by simp
  exact Ev.step (fun k => by simp only [impl_Net_walk.l0, if_neg c] <;> exact rfl) (Ev.val (by simp [ties]))
 | cons a suf =>
  have c1 : (0 : Int) < ((a :: suf).length : Int) := by rw [List.length_cons]; omega
  have c3 : ¬ (0 : Int) > 0 := by omega
  have r1 : rd (a :: suf) 0 = a := rfl
  have w2 : wrap64 (0 + 1) = 1 := by rw [w64 (by omega) (by omega)]; rfl
  refine Ev.step (fun k => by simp only [impl_Net_walk.l0, if_pos c1, Int.le_refl, if_true, r1, knot_eq, Option.bind_some] <;> exact rfl) ?_
  by_cases k1 : 0 ≤ a ∧ a < n
  ·rw [decide_eq_true k1]
   simp only [if_true, if_neg c3, w2]
   have := walk_l1 n E hE suf [] a (by simpa using hr)
   simp only [List.nil_append, List.length_nil] at this
   refine Ev.eq this ?_
   refine decide_eq_decide.2 ⟨fun h => ⟨fun v hv => ?_, h.2⟩, fun h => ⟨fun v hv => h.1 v (by simp [hv]), h.2⟩⟩
   rcases List.mem_cons.1 hv with rfl | hv
   ·exact k1
   ·exact h.1 v hv
  ·rw [decide_eq_false k1]
   simp only [Bool.false_eq_true, if_false]
   exact Ev.val (congrArg some (decide_eq_false (fun h => k1 (h.1 a (by simp)))).symm)
end Go.Proofs.Ytgeonpciodepgaa.P

namespace Go.Proofs.Ytgeonpciodepgaa.P
open Go.RowKit Go.Proofs.YtgeonpciodepgaaW.PrintWords Go.Proofs.Ytgeonpciodepgaa.G
theorem indexInt_l0 (a : Int) : ∀ (suf p : List Int), ((p ++ suf).length : Int) < big →
  ∃ r, Ev (fun k => slices_Index_int_int.l0 k (p ++ suf) a ((p ++ suf).length : Int) (p.length : Int)) r ∧ (r ≥ 0 ↔ a ∈ suf) := by
 intro suf
 induction suf with
 | nil =>
  intro p hb
  refine ⟨-1, Ev.step (fun k => by simp only [slices_Index_int_int.l0, nlt_end, if_false] <;> exact rfl) (Ev.val rfl), by simp⟩
 | cons t suf ih =>
  intro p hb
  have hp : (p.length : Int) < big := len_mid hb
  by_cases c : a = t
  ·refine ⟨p.length, ?_, ?_⟩
   ·refine Ev.step (fun k => by simp only [slices_Index_int_int.l0, lt_mid, nn, if_true, rd_mid, w_succ (t := t) hp, if_pos c] <;> exact rfl) ?_
    exact Ev.val rfl
   ·simp [c]
  ·obtain ⟨r, hr, hi⟩ := ih (p ++ [t]) (len_app hb)
   refine ⟨r, ?_, ?_⟩
   ·refine Ev.step (fun k => by simp only [slices_Index_int_int.l0, lt_mid, nn, if_true, rd_mid, w_succ (t := t) hp, if_neg c] <;> exact rfl) ?_
    rw [app_one p t suf]
    exact hr
   ·rw [hi]; simp [c]
theorem containsInt_ev (l : List Int) (a : Int) (hb : (l.length : Int) < big) : Ev (fun k => slices_Contains_int_int.f k l a) (decide (a ∈ l)) := by
 unfold slices_Contains_int_int.f slices_Index_int_int.f
 obtain ⟨r, hr, hi⟩ := indexInt_l0 a l [] hb
 refine Ev.bind hr (Ev.val ?_)
 exact congrArg some (decide_eq_decide.2 hi)
def fresh : List Int → List Int → Prop
 | _, [] => True
 | vs, x :: r => x ∉ vs ∧ fresh (vs ++ [x]) r
instance fresh_dec : (vs l : List Int) → Decidable (fresh vs l)
 | _, [] => isTrue trivial
 | vs, x :: r => by
  have := fresh_dec (vs ++ [x]) r
  unfold fresh
  infer_instance
theorem fresh_iff (l : List Int) : ∀ vs : List Int, fresh vs l ↔ l.Nodup ∧ ∀ x ∈ l, x ∉ vs := by
 induction l with
 | nil => intro vs; simp [fresh]
 | cons x r ih =>
  intro vs
  unfold fresh
  rw [ih, List.nodup_cons]
  constructor
  ·rintro ⟨h1, h2, h3⟩
   refine ⟨⟨fun hx => ?_, h2⟩, fun y hy => ?_⟩
   ·exact h3 x hx (by simp)
   ·rcases List.mem_cons.1 hy with rfl | hy
    ·exact h1
    ·exact fun hv => h3 y hy (by simp [hv])
  ·rintro ⟨⟨h1, h2⟩, h3⟩
   refine ⟨h3 x (by simp), h2, fun y hy hv => ?_⟩
   rcases List.mem_append.1 hv with hv | hv
   ·exact h3 y (by simp [hy]) hv
   ·rw [List.mem_singleton] at hv
    subst hv
    exact h1 hy
theorem different_l0 : ∀ (suf p : List Int), ((p ++ suf).length : Int) < big →
  Ev (fun k => impl_different.l0 k (p ++ suf) (p ++ suf) ((p ++ suf).length : Int) (p.length : Int)) (decide (fresh p suf)) := by
 intro suf
 induction suf with
 | nil =>
  intro p hb
  refine Ev.step (fun k => by simp only [impl_different.l0, nlt_end, if_false] <;> exact rfl) ?_
  exact Ev.val (congrArg some (decide_eq_true (by simp [fresh])).symm)
 | cons t suf ih =>
  intro p hb
  have hp : (p.length : Int) < big := len_mid hb
  have hle : (p.length : Int) ≤ ((p ++ t :: suf).length : Int) := Int.le_of_lt (lt_mid _ _ _)
  have htk : (p ++ t :: suf).take ((p.length : Int)).toNat = p := by simp
  refine Ev.step (fun k => by simp only [impl_different.l0, lt_mid, nn, if_true, rd_mid, w_succ (t := t) hp, hle, htk] <;> exact rfl) ?_
  refine Ev.bind (containsInt_ev p t hp) ?_
  by_cases c : t ∈ p
  ·simp only [c, decide_true, if_true]
   exact Ev.val (congrArg some (decide_eq_false (by simp [fresh, c])).symm)
  ·simp only [c, decide_false, Bool.false_eq_true, if_false]
   rw [app_one p t suf]
   refine Ev.eq (ih (p ++ [t]) (len_app hb)) ?_
   rw [decide_eq_decide]
   simp [fresh, c]
theorem different_ev (l : List Int) (hb : (l.length : Int) < big) : Ev (fun k => impl_different.f k l) (decide l.Nodup) := by
 unfold impl_different.f
 refine Ev.eq (different_l0 l [] hb) ?_
 rw [decide_eq_decide, fresh_iff]
 simp
end Go.Proofs.Ytgeonpciodepgaa.P

namespace Go.Proofs.Ytgeonpciodepgaa.G
open Go.RowKit Go.Proofs.YtgeonpciodepgaaW.PrintWords
inductive Conn (E : List Tie) : Int → Int → Prop
 | refl (a : Int) : Conn E a a
 | step {a b c : Int} : Conn E a b → tieOf b c ∈ E → Conn E a c
theorem Conn.one {E : List Tie} {a b : Int} (h : tieOf a b ∈ E) : Conn E a b := .step (.refl a) h
theorem Conn.trans {E : List Tie} {a b c : Int} (h : Conn E a b) (k : Conn E b c) : Conn E a c := by
 induction k with
 | refl => exact h
 | step _ t ih => exact .step ih t
theorem Conn.symm {E : List Tie} {a b : Int} (h : Conn E a b) : Conn E b a := by
 induction h with
 | refl => exact .refl _
 | step _ t ih => exact (Conn.one (tieOf_comm _ _ ▸ t)).trans ih
theorem Conn.mono {E F : List Tie} {a b : Int} (h : Conn E a b) (hs : ∀ t ∈ E, t ∈ F) : Conn F a b := by
 induction h with
 | refl => exact .refl _
 | step _ t ih => exact .step ih (hs _ t)
theorem Conn.closed {E : List Tie} {a b : Int} (h : Conn E a b) (p : Int → Prop) (ha : p a) (hc : ∀ x y, p x → tieOf x y ∈ E → p y) : p b := by
 induction h with
 | refl => exact ha
 | step _ t ih => exact hc _ _ ih t
theorem Conn.range {n : Int} {E : List Tie} (hE : ∀ t ∈ E, inr n t) {a b : Int} (h : Conn E a b) (ha : 0 ≤ a ∧ a < n) : 0 ≤ b ∧ b < n :=
 h.closed (fun x => 0 ≤ x ∧ x < n) ha (fun _ _ _ ht => (tieOf_ends (hE _ ht)).2.1)
theorem Conn.tie {E : List Tie} {t : Tie} (ht : t ∈ E) (h : t.f0 < t.f1) : Conn E t.f0 t.f1 := Conn.one (by rw [tieOf_lt h]; exact ht)

def EvP (g : Nat → Option Bool) (P : Prop) : Prop := ∃ b : Bool, Ev g b ∧ (b = true ↔ P)
theorem EvP.of {g : Nat → Option Bool} {P : Prop} [Decidable P] (h : Ev g (decide P)) : EvP g P := ⟨_, h, by simp⟩
theorem EvP.iff {g : Nat → Option Bool} {P Q : Prop} (h : EvP g P) (e : P ↔ Q) : EvP g Q := by
 obtain ⟨b, h1, h2⟩ := h
 exact ⟨b, h1, h2.trans e⟩
theorem EvP.true_ {P : Prop} (h : P) : EvP (fun _ => some true) P := ⟨true, ⟨0, fun _ _ => rfl⟩, by simp [h]⟩
theorem EvP.false_ {P : Prop} (h : ¬ P) : EvP (fun _ => some false) P := ⟨false, ⟨0, fun _ _ => rfl⟩, by simp [h]⟩
theorem EvP.step {g f : Nat → Option Bool} {P : Prop} (h : ∀ k, g (k + 1) = f k) (k : EvP f P) : EvP g P := by
 obtain ⟨b, h1, h2⟩ := k
 exact ⟨b, Ev.step h h1, h2⟩
theorem EvP.bind {α : Type} {g : Nat → Option α} {f : Nat → α → Option Bool} {a : α} {P : Prop} (h : Ev g a) (k : EvP (fun n => f n a) P) : EvP (fun n => (g n).bind (f n)) P := by
 obtain ⟨b, h1, h2⟩ := k
 exact ⟨b, Ev.bind h h1, h2⟩
theorem EvP.test {g : Nat → Option Bool} {f : Nat → Bool → Option Bool} {P Q : Prop} (h : EvP g Q) (kt : Q → EvP (fun n => f n true) P) (kf : ¬ Q → EvP (fun n => f n false) P) : EvP (fun n => (g n).bind (f n)) P := by
 obtain ⟨b, h1, h2⟩ := h
 cases b with
 | true => exact EvP.bind h1 (kt (h2.1 rfl))
 | false => exact EvP.bind h1 (kf (fun q => by have := h2.2 q; simp at this))
theorem EvP.same {g f : Nat → Option Bool} {P : Prop} (h : EvP g P) (k : EvP f P) : ∃ b, Ev g b ∧ Ev f b := by
 obtain ⟨b, h1, h2⟩ := h
 obtain ⟨c, k1, k2⟩ := k
 have : b = c := by
  rw [Bool.eq_iff_iff]; exact h2.trans k2.symm
 exact ⟨b, h1, this ▸ k1⟩

theorem nodup_len_le {α : Type} [DecidableEq α] : ∀ {l m : List α}, l.Nodup → (∀ x ∈ l, x ∈ m) → l.length ≤ m.length
 | [], m, _, _ => Nat.zero_le _
 | a :: l, m, h, hs => by
  obtain ⟨h1, h2⟩ := List.nodup_cons.1 h
  have ha : a ∈ m := hs a (List.mem_cons_self)
  have : l.length ≤ (m.erase a).length := nodup_len_le h2 (fun x hx => (List.mem_erase_of_ne (fun (e : x = a) => h1 (by rw [← e]; exact hx))).2 (hs x (List.mem_cons_of_mem _ hx)))
  rw [List.length_erase_of_mem ha] at this
  have : 0 < m.length := List.length_pos_of_mem ha
  simp only [List.length_cons]
  omega
theorem nodup_len_eq {α : Type} [DecidableEq α] {l m : List α} (hl : l.Nodup) (hm : m.Nodup) (h : ∀ x, x ∈ l ↔ x ∈ m) : l.length = m.length :=
 Nat.le_antisymm (nodup_len_le hl (fun x hx => (h x).1 hx)) (nodup_len_le hm (fun x hx => (h x).2 hx))
theorem nodup_map {α β : Type} (f : α → β) : ∀ {l : List α}, l.Nodup → (∀ x ∈ l, ∀ y ∈ l, f x = f y → x = y) → (l.map f).Nodup
 | [], _, _ => by simp
 | a :: l, h, hf => by
  obtain ⟨h1, h2⟩ := List.nodup_cons.1 h
  rw [List.map_cons, List.nodup_cons]
  refine ⟨fun hm => ?_, nodup_map f h2 (fun x hx y hy => hf x (List.mem_cons_of_mem _ hx) y (List.mem_cons_of_mem _ hy))⟩
  obtain ⟨y, hy, e⟩ := List.mem_map.1 hm
  have := hf a (List.mem_cons_self) y (List.mem_cons_of_mem _ hy) e.symm
  exact h1 (this ▸ hy)
def knots (n : Int) : List Int := (List.range n.toNat).map fun (i : Nat) => (i : Int)
theorem mem_knots {n v : Int} : v ∈ knots n ↔ 0 ≤ v ∧ v < n := by
 unfold knots
 rw [List.mem_map]
 constructor
 ·rintro ⟨i, hi, rfl⟩
  have := List.mem_range.1 hi
  omega
 ·rintro ⟨h0, h1⟩
  exact ⟨v.toNat, List.mem_range.2 (by omega), by omega⟩
theorem knots_nodup (n : Int) : (knots n).Nodup := nodup_map _ List.nodup_range (fun x _ y _ e => Int.ofNat.inj e)
theorem knots_len (n : Int) : (knots n).length = n.toNat := by simp [knots]
theorem knots_succ {n : Int} (h : 0 ≤ n) : knots (n + 1) = knots n ++ [n] := by
 unfold knots
 have : (n + 1).toNat = n.toNat + 1 := by omega
 rw [this, List.range_succ, List.map_append]
 simp
 omega
def next (n : Int) (E : List Tie) (v : Int) : List Int := (knots n).filter fun i => decide (tieOf v i ∈ E)
theorem mem_next {n v i : Int} {E : List Tie} (hE : ∀ t ∈ E, inr n t) : i ∈ next n E v ↔ tieOf v i ∈ E := by
 unfold next
 rw [List.mem_filter, mem_knots]
 simp only [decide_eq_true_eq]
 exact ⟨fun h => h.2, fun h => ⟨(tieOf_ends (hE _ h)).2.1, h⟩⟩
theorem next_nodup (n : Int) (E : List Tie) (v : Int) : (next n E v).Nodup := (knots_nodup n).sublist List.filter_sublist
def deg (E : List Tie) (v : Int) : Nat := (E.filter fun t => decide (t.f0 = v ∨ t.f1 = v)).length
theorem tieOf_inj {v i j : Int} (h : tieOf v i = tieOf v j) : i = j := by
 unfold tieOf at h
 by_cases a : v < i <;> by_cases b : v < j <;> simp [a, b] at h <;> omega
theorem next_len {n v : Int} {E : List Tie} (hE : ok n E) : (next n E v).length = deg E v := by
 have hi := hE.2.2.1
 have e : (next n E v).length = ((next n E v).map (tieOf v)).length := by simp
 rw [e]
 unfold deg
 refine nodup_len_eq (nodup_map _ (next_nodup n E v) (fun x _ y _ h => tieOf_inj h)) ((asc_nodup hE.2.2.2).sublist List.filter_sublist) (fun t => ?_)
 rw [List.mem_map, List.mem_filter]
 simp only [decide_eq_true_eq]
 constructor
 ·rintro ⟨i, h, rfl⟩
  have h' := (mem_next hi).1 h
  refine ⟨h', ?_⟩
  unfold tieOf
  by_cases c : v < i
  ·rw [if_pos c]; exact .inl rfl
  ·rw [if_neg c]; exact .inr rfl
 ·rintro ⟨h, c⟩
  have ht := hi t h
  rcases c with c | c
  ·exact ⟨t.f1, (mem_next hi).2 (by rw [← c, tieOf_inr ht]; exact h), by rw [← c, tieOf_inr ht]⟩
  ·have : tieOf v t.f0 = t := by rw [tieOf_comm, ← c, tieOf_inr ht]
   exact ⟨t.f0, (mem_next hi).2 (by rw [this]; exact h), this⟩
end Go.Proofs.Ytgeonpciodepgaa.G

namespace Go.Proofs.Ytgeonpciodepgaa.P
open Go.RowKit Go.Proofs.YtgeonpciodepgaaW.PrintWords Go.Proofs.Ytgeonpciodepgaa.G
theorem tHas_eq (a b : Int) : ∀ l : List Tie, tHas l a b = decide ((⟨a, b⟩ : Tie) ∈ l)
  | [] => by simp [tHas]
  | t :: r => by
    rw [tHas, tHas_eq a b r]
    obtain ⟨x, y⟩ := t
    by_cases h : a = x <;> by_cases k : b = y <;> simp [h, k]
def kn (n : Int) (K : List Bool) (ks : List Int) : Prop := (K.length : Int) = n ∧ ∀ v, 0 ≤ v → v < n → rdOf false K v = decide (v ∈ ks)
theorem rdOf_set (K : List Bool) (v x : Int) (h0 : 0 ≤ v) (h1 : v < (K.length : Int)) (x0 : 0 ≤ x) : rdOf false (K.set v.toNat true) x = if x = v then true else rdOf false K x := by
  unfold rdOf
  simp only [List.getD_eq_getElem?_getD, List.getElem?_set]
  by_cases c : x = v
  · subst c
    have : x.toNat < K.length := by omega
    simp [this]
  · have c' : ¬ v.toNat = x.toNat := fun e => c (by omega)
    simp [c, c']
theorem kn_set {n : Int} {K : List Bool} {ks : List Int} {v : Int} (h : kn n K ks) (h0 : 0 ≤ v) (h1 : v < n) : kn n (K.set v.toNat true) (addK ks v) := by
  refine ⟨by rw [List.length_set]; exact h.1, fun x x0 x1 => ?_⟩
  rw [rdOf_set K v x h0 (by rw [h.1]; exact h1) x0, h.2 x x0 x1]
  by_cases c : x = v
  · rw [if_pos c]; exact (decide_eq_true ((mem_addK ks v x).2 (Or.inr c))).symm
  · rw [if_neg c]
    exact decide_eq_decide.2 ⟨fun y => (mem_addK ks v x).2 (Or.inl y), fun y => ((mem_addK ks v x).1 y).resolve_right c⟩
theorem kn_full {n : Int} {K : List Bool} {ks : List Int} (h : kn n K ks) (hn : ks.Nodup) (hr : ∀ v ∈ ks, 0 ≤ v ∧ v < n) : false ∉ K ↔ (ks.length : Int) = n := by
  have hall : false ∉ K ↔ ∀ v : Int, 0 ≤ v → v < n → v ∈ ks := by
    constructor
    · intro hf v h0 h1
      have e := h.2 v h0 h1
      by_cases c : v ∈ ks
      · exact c
      · rw [decide_eq_false c] at e
        exfalso
        apply hf
        have hl : v.toNat < K.length := by have := h.1; omega
        unfold rdOf at e
        rw [List.getD_eq_getElem?_getD, List.getElem?_eq_getElem hl] at e
        simp at e
        rw [← e]
        exact List.getElem_mem hl
    · intro hv hf
      obtain ⟨i, hi, e⟩ := List.getElem_of_mem hf
      have e2 := h.2 (i : Int) (nn i) (by rw [← h.1]; omega)
      unfold rdOf at e2
      rw [List.getD_eq_getElem?_getD, Int.toNat_natCast, List.getElem?_eq_getElem hi, e] at e2
      simp at e2
      exact e2 (hv i (nn i) (by rw [← h.1]; omega))
  rw [hall]
  have hn0 : 0 ≤ n := by rw [← h.1]; exact nn _
  have rl : ((List.range n.toNat).map (fun i : Nat => (i : Int))).length = n.toNat := by simp
  have rn : ((List.range n.toNat).map (fun i : Nat => (i : Int))).Nodup := by
    rw [List.Nodup, List.pairwise_map]
    exact List.nodup_range.imp (fun hne e => hne (by exact_mod_cast e))
  constructor
  · intro hv
    have := nodup_len_eq hn rn (fun x => ⟨fun hx => by
      have := hr x hx
      exact List.mem_map.2 ⟨x.toNat, List.mem_range.2 (by omega), by omega⟩, fun hx => by
      obtain ⟨i, hi, rfl⟩ := List.mem_map.1 hx
      have := List.mem_range.1 hi
      exact hv i (nn i) (by omega)⟩)
    rw [rl] at this
    omega
  · intro hlen v h0 h1
    by_cases c : v ∈ ks
    · exact c
    · exfalso
      have : (v :: ks).length ≤ ((List.range n.toNat).map (fun i : Nat => (i : Int))).length := nodup_len_le (List.nodup_cons.2 ⟨c, hn⟩) (fun x hx => by
        rcases List.mem_cons.1 hx with rfl | hx
        · exact List.mem_map.2 ⟨x.toNat, List.mem_range.2 (by omega), by omega⟩
        · have := hr x hx
          exact List.mem_map.2 ⟨x.toNat, List.mem_range.2 (by omega), by omega⟩)
      rw [rl] at this
      simp at this
      omega
theorem indexBool_l0 (a : Bool) : ∀ (suf p : List Bool), ((p ++ suf).length : Int) < big → a ∉ p →
    ∃ r, Ev (fun k => slices_Index_bool_bool.l0 k (p ++ suf) a ((p ++ suf).length : Int) (p.length : Int)) r ∧ (r ≥ 0 ↔ a ∈ p ++ suf) := by
  intro suf
  induction suf with
  | nil =>
    intro p hb hp
    refine ⟨-1, Ev.step (fun k => by simp only [slices_Index_bool_bool.l0, nlt_end, if_false] <;> exact rfl) (Ev.val rfl), ?_⟩
    simp [hp]
  | cons t suf ih =>
    intro p hb hp
    have hl : (p.length : Int) < big := len_mid hb
    by_cases c : a = t
    · refine ⟨(p.length : Int), Ev.step (fun k => by simp only [slices_Index_bool_bool.l0, lt_mid, nn, if_true, rdOf_mid, if_pos (show (a == t) = true by simp [c])] <;> exact rfl) (Ev.val rfl), ?_⟩
      simp [c]
    · obtain ⟨r, h1, h2⟩ := ih (p ++ [t]) (by rw [← app_one]; exact hb) (by simp [hp, c])
      rw [← app_one] at h1 h2
      exact ⟨r, Ev.step (fun k => by simp only [slices_Index_bool_bool.l0, lt_mid, nn, if_true, rdOf_mid, if_neg (show ¬ (a == t) = true by simp [c]), w_succ (t := t) hl] <;> exact rfl) h1, h2⟩
theorem containsBool_ev (l : List Bool) (a : Bool) (hb : (l.length : Int) < big) : Ev (fun k => slices_Contains_bool_bool.f k l a) (decide (a ∈ l)) := by
  unfold slices_Contains_bool_bool.f slices_Index_bool_bool.f
  obtain ⟨r, h1, h2⟩ := indexBool_l0 a l [] hb (by simp)
  refine Ev.bind h1 (Ev.val ?_)
  rw [decide_eq_decide.2 h2]; rfl
section
variable {n : Int} {E T : List S59} {D : List Int} {ears : List (List Int)} {len at_ : Int} {row ks : List Int} {P : Prop}
theorem mark_l3 (U : List S59) (hr : ∀ v ∈ row, 0 ≤ v ∧ v < n) (hb : (row.length : Int) < big)
    (H : ∀ K, kn n K (addAll ks row) → ∃ b, Ev (fun k => earOkW.l0 k D K ears len (wrap64 (at_ + 1)) n E U 0) b ∧ (b = true ↔ P)) : ∀ (suf p : List Int) (K : List Bool), row = p ++ suf → kn n K (addAll ks p) →
    ∃ b, Ev (fun k => earOkW.l3 k D K ears len at_ row (row.length : Int) (p.length : Int) n E U 0) b ∧ (b = true ↔ P) := by
  intro suf
  induction suf with
  | nil =>
    intro p K e hK
    rw [List.append_nil] at e
    subst e
    obtain ⟨b, e1, h1⟩ := H K hK
    have c : ¬ (row.length : Int) < (row.length : Int) := by omega
    exact ⟨b, Ev.step (fun k => by simp only [earOkW.l3, if_neg c] <;> exact rfl) e1, h1⟩
  | cons v suf ih =>
    intro p K e hK
    have c1 : (p.length : Int) < (row.length : Int) := by rw [e]; exact lt_mid p v suf
    have rv : rd row (p.length : Int) = v := by rw [e]; exact rd_mid p v suf
    have hv := hr v (by rw [e]; simp)
    have hs : wrap64 ((p.length : Int) + 1) = ((p ++ [v]).length : Int) := w_succ (by omega)
    have c2 : v < (K.length : Int) := by rw [hK.1]; exact hv.2
    obtain ⟨b, e1, h1⟩ := ih (p ++ [v]) (K.set v.toNat true) (by rw [e]; simp) (by rw [addAll_app]; exact kn_set hK hv.1 hv.2)
    exact ⟨b, Ev.step (fun k => by simp only [earOkW.l3, nn, if_true, if_pos c1, rv, if_pos hv.1, if_pos c2, hs] <;> exact rfl) e1, h1⟩
theorem ties_l2 (K : List Bool) (hnd : (ties row).Nodup) (hb : (row.length : Int) < big)
    (H : ∃ b, Ev (fun k => earOkW.l3 k D K ears len at_ row (row.length : Int) 0 n E (T ++ ties row) 0) b ∧ (b = true ↔ P)) : ∀ (suf p : List Int) (u : Int), row = (p ++ [u]) ++ suf →
    ∃ b, Ev (fun k => earOkW.l2 k D K row ((p ++ [u]).length : Int) ears len at_ n E (T ++ ties (p ++ [u])) 0) b ∧ (b = true ↔ (∀ t ∈ ties (u :: suf), t ∉ T) ∧ P) := by
  intro suf
  induction suf with
  | nil =>
    intro p u e
    rw [List.append_nil] at e
    subst e
    obtain ⟨b, e1, h1⟩ := H
    have c : ¬ ((p ++ [u]).length : Int) < ((p ++ [u]).length : Int) := by omega
    exact ⟨b, Ev.step (fun k => by simp only [earOkW.l2, if_neg c] <;> exact rfl) e1, by simp [ties, h1]⟩
  | cons v suf ih =>
    intro p u e
    have hpb : ((p ++ [u]).length : Int) < big := by rw [e] at hb; exact len_mid hb
    have c1 : ((p ++ [u]).length : Int) < (row.length : Int) := by rw [e]; exact lt_mid (p ++ [u]) v suf
    have c2 : 0 ≤ wrap64 (((p ++ [u]).length : Int) - 1) := by rw [len_pred p u hpb]; exact nn _
    have c3 : wrap64 (((p ++ [u]).length : Int) - 1) < (row.length : Int) := by rw [len_pred p u hpb]; simp at c1; omega
    have rv : rd row ((p ++ [u]).length : Int) = v := by rw [e]; exact rd_mid (p ++ [u]) v suf
    have ru : rd row (wrap64 (((p ++ [u]).length : Int) - 1)) = u := by rw [len_pred p u hpb, e, mid_one]; exact rd_mid p u (v :: suf)
    have hs : wrap64 (((p ++ [u]).length : Int) + 1) = (((p ++ [u]) ++ [v]).length : Int) := w_succ hpb
    have er : ties row = ties (p ++ [u]) ++ tieOf u v :: ties (v :: suf) := by
      rw [e, show (p ++ [u]) ++ v :: suf = p ++ u :: v :: suf by simp]; exact tiesApp p u v suf
    have hni : tieOf u v ∉ ties (p ++ [u]) := fun h => by
      rw [er, List.nodup_append] at hnd
      exact hnd.2.2 _ h _ (by simp) rfl
    have et : (T ++ ties (p ++ [u])) ++ [(⟨(tieOf u v).f0, (tieOf u v).f1⟩ : S59)] = T ++ ties ((p ++ [u]) ++ [v]) := by rw [List.append_assoc, ← ties_one]
    have ed : decide ((⟨(tieOf u v).f0, (tieOf u v).f1⟩ : Tie) ∈ T ++ ties (p ++ [u])) = decide (tieOf u v ∈ T ++ ties (p ++ [u])) := rfl
    have base : ∀ k, earOkW.l2 (k + 1) D K row ((p ++ [u]).length : Int) ears len at_ n E (T ++ ties (p ++ [u])) 0 = if decide (tieOf u v ∈ T ++ ties (p ++ [u])) = true then some false else earOkW.l2 k D K row (((p ++ [u]) ++ [v]).length : Int) ears len at_ n E (T ++ ties ((p ++ [u]) ++ [v])) 0 := fun k => by
      simp only [earOkW.l2, nn, if_true, if_pos c1, if_pos c2, if_pos c3, ru, rv, hs, tie_eq, Option.bind_some, tHas_eq, et, ed]
    by_cases m : tieOf u v ∈ T
    · refine ⟨false, Ev.step base (by rw [decide_eq_true (List.mem_append_left _ m)]; exact Ev.val rfl), ?_⟩
      simp only [Bool.false_eq_true, false_iff]
      exact fun h => h.1 (tieOf u v) (by simp [ties]) m
    · obtain ⟨b, e1, h1⟩ := ih (p ++ [u]) v (by rw [e]; simp)
      refine ⟨b, Ev.step base (by rw [decide_eq_false (fun h => (List.mem_append.1 h).elim m hni)]; simpa using e1), ?_⟩
      rw [h1]
      simp only [ties, List.mem_cons, forall_eq_or_imp]
      exact ⟨fun h => ⟨⟨m, h.1⟩, h.2⟩, fun h => ⟨h.1.2, h.2⟩⟩
theorem new_l1 (K : List Bool) (U : List S59) (inner : List Int) (hK : kn n K ks) (hi : ∀ v ∈ inner, 0 ≤ v ∧ v < n) (hb : (inner.length : Int) < big)
    (H : (∀ v ∈ inner, v ∉ ks) → ∃ b, Ev (fun k => earOkW.l2 k D K row 1 ears len at_ n E U 0) b ∧ (b = true ↔ P)) : ∀ (suf p : List Int), inner = p ++ suf → (∀ v ∈ p, v ∉ ks) →
    ∃ b, Ev (fun k => earOkW.l1 k D K row ears len at_ inner (inner.length : Int) (p.length : Int) n E U 0) b ∧ (b = true ↔ (∀ v ∈ suf, v ∉ ks) ∧ P) := by
  intro suf
  induction suf with
  | nil =>
    intro p e hp
    rw [List.append_nil] at e
    subst e
    obtain ⟨b, e1, h1⟩ := H hp
    have c : ¬ (inner.length : Int) < (inner.length : Int) := by omega
    exact ⟨b, Ev.step (fun k => by simp only [earOkW.l1, if_neg c] <;> exact rfl) e1, by simp [h1]⟩
  | cons v suf ih =>
    intro p e hp
    have c1 : (p.length : Int) < (inner.length : Int) := by rw [e]; exact lt_mid p v suf
    have rv : rd inner (p.length : Int) = v := by rw [e]; exact rd_mid p v suf
    have hv := hi v (by rw [e]; simp)
    have hs : wrap64 ((p.length : Int) + 1) = ((p ++ [v]).length : Int) := w_succ (by omega)
    have c2 : v < (K.length : Int) := by rw [hK.1]; exact hv.2
    have base : ∀ k, earOkW.l1 (k + 1) D K row ears len at_ inner (inner.length : Int) (p.length : Int) n E U 0 = if decide (v ∈ ks) = true then some false else earOkW.l1 k D K row ears len at_ inner (inner.length : Int) ((p ++ [v]).length : Int) n E U 0 := fun k => by
      simp only [earOkW.l1, nn, if_true, if_pos c1, rv, if_pos hv.1, if_pos c2, hs, hK.2 v hv.1 hv.2]
    by_cases m : v ∈ ks
    · refine ⟨false, Ev.step base (by rw [decide_eq_true m]; exact Ev.val rfl), ?_⟩
      simp only [Bool.false_eq_true, false_iff]
      exact fun h => h.1 v (by simp) m
    · obtain ⟨b, e1, h1⟩ := ih (p ++ [v]) (by rw [e]; simp) (fun x hx => (List.mem_append.1 hx).elim (hp x) (fun h => by rw [List.mem_singleton] at h; subst h; exact m))
      refine ⟨b, Ev.step base (by rw [decide_eq_false m]; simpa using e1), ?_⟩
      rw [h1]
      simp only [List.mem_cons, forall_eq_or_imp]
      exact ⟨fun h => ⟨⟨m, h.1⟩, h.2⟩, fun h => ⟨h.1.2, h.2⟩⟩
end
theorem parts_take (a : Int) (m : List Int) (z : Int) : (a :: (m ++ [z])).drop 1 = m ++ [z] ∧ ((a :: (m ++ [z])).take ((a :: (m ++ [z])).length - 1)).drop 1 = m := by
  refine ⟨rfl, ?_⟩
  simp
theorem earsI_l0 (n : Int) (E : List S59) (hok : ok n E) (D : List Int) : ∀ (se pe : List (List Int)) (T : List S59) (ks : List Int) (K : List Bool), ((pe ++ se).length : Int) < big → T.length + tot se < 4000000 → kn n K ks → ks.Nodup → (∀ v ∈ ks, 0 ≤ v ∧ v < n) → (pe = [] → ks = []) →
    ∃ b, Ev (fun k => earOkW.l0 k D K (pe ++ se) ((pe ++ se).length : Int) (pe.length : Int) n E T 0) b ∧ (b = true ↔ earsOk n E ((pe.length : Int) == 0) T ks se) := by
  have hE : (E.length : Int) < big := by have := ok_len hok; unfold big; omega
  intro se
  induction se with
  | nil =>
    intro pe T ks K hb hT hK hn hr h0
    by_cases c : (T.length : Int) = (E.length : Int)
    · refine ⟨!decide (false ∈ K), Ev.step (fun k => by simp only [earOkW.l0, nlt_end, if_false, if_pos c] <;> exact rfl) (Ev.bind (containsBool_ev K false (by have := hK.1; have := hok.2.1; unfold big; omega)) (Ev.val rfl)), ?_⟩
      simp only [earsOk, Bool.not_eq_true', decide_eq_false_iff_not]
      rw [kn_full hK hn hr]
      exact ⟨fun h => ⟨by omega, h⟩, fun h => h.2⟩
    · refine ⟨false, Ev.step (fun k => by simp only [earOkW.l0, nlt_end, if_false, if_neg c] <;> exact rfl) (Ev.val rfl), ?_⟩
      simp only [earsOk, Bool.false_eq_true, false_iff]
      exact fun h => c (by omega)
  | cons row se ih =>
    intro pe T ks K hb hT hK hn hr h0
    simp only [tot] at hT
    have hrb : (row.length : Int) < big := by unfold big; omega
    have hpl : (pe.length : Int) < big := len_mid hb
    have fst : (((pe.length : Int) == 0) = true) ↔ pe = [] := by rw [beq_iff_eq]; exact ⟨fun h => List.eq_nil_of_length_eq_zero (by omega), fun h => by rw [h]; rfl⟩
    have J2f : Ev (fun k => earOkW.j2 k D K (pe.length : Int) row (pe ++ row :: se) ((pe ++ row :: se).length : Int) (pe.length : Int) true n E T 0) false := Ev.step (fun k => by simp only [earOkW.j2, if_true] <;> exact rfl) (Ev.val rfl)
    have bad : ¬ earOk n E T ks ((pe.length : Int) == 0) row → (false = true ↔ earsOk n E ((pe.length : Int) == 0) T ks (row :: se)) := fun h => by
      simp only [earsOk, Bool.false_eq_true, false_iff]; exact fun x => h x.1
    by_cases cl : (row.length : Int) < 2
    · exact ⟨false, Ev.step (fun k => by simp only [earOkW.l0, lt_mid, nn, if_true, rdL2_mid, if_pos cl] <;> exact rfl) J2f, bad (fun h => by have := h.len; omega)⟩
    · have hl : 2 ≤ row.length := by omega
      have base : ∀ k, earOkW.l0 (k + 1) D K (pe ++ row :: se) ((pe ++ row :: se).length : Int) (pe.length : Int) n E T 0 = (impl_Net_walk.f k n E row).bind fun t => earOkW.j2 k D K (pe.length : Int) row (pe ++ row :: se) ((pe ++ row :: se).length : Int) (pe.length : Int) (!t) n E T 0 := fun k => by
        simp only [earOkW.l0, lt_mid, nn, if_true, rdL2_mid, if_neg cl]
      by_cases hw : walkOk n E row
      · have W := Ev.eq (walk_ev n E row hE hrb) (decide_eq_true hw)
        obtain ⟨a, m, z, rfl⟩ := row_parts hl
        have r0 : rd (a :: (m ++ [z])) 0 = a := rfl
        obtain ⟨r1, r2, r3⟩ := rd_lst (row := a :: (m ++ [z])) (by simp) hrb
        rw [lst_parts] at r1
        have ha := hw.1 a (by simp)
        have hz := hw.1 z (by simp)
        have hrl : 0 < ((a :: (m ++ [z])).length : Int) := by simp; omega
        have hK1 : ∀ v : Int, v < n → v < (K.length : Int) := fun v h => by rw [hK.1]; exact h
        have hwl : wrap64 (((a :: (m ++ [z])).length : Int) - 1) = (((a :: (m ++ [z])).length - 1 : Nat) : Int) := by
          unfold big at hrb
          rw [w64 (by omega) (by omega)]; omega
        -- behind the tests of the ends
        have J4 : ∀ inner : List Int, (∀ v ∈ inner, v ∈ a :: (m ++ [z])) → (inner.length : Int) < big → (inner.Nodup → (∀ v ∈ inner, v ∉ ks) → (ties (a :: (m ++ [z]))).Nodup) →
            ∃ b, Ev (fun k => earOkW.j4 k D K (a :: (m ++ [z])) inner (pe ++ (a :: (m ++ [z])) :: se) ((pe ++ (a :: (m ++ [z])) :: se).length : Int) (pe.length : Int) n E T 0) b ∧
              (b = true ↔ inner.Nodup ∧ (∀ v ∈ inner, v ∉ ks) ∧ (∀ t ∈ ties (a :: (m ++ [z])), t ∉ T) ∧ earsOk n E false (T ++ ties (a :: (m ++ [z]))) (addAll ks (a :: (m ++ [z]))) se) := by
          intro inner hin hib hnd
          have base4 : ∀ k, earOkW.j4 (k + 1) D K (a :: (m ++ [z])) inner (pe ++ (a :: (m ++ [z])) :: se) ((pe ++ (a :: (m ++ [z])) :: se).length : Int) (pe.length : Int) n E T 0 = (impl_different.f k inner).bind fun t => if t = true then earOkW.l1 k D K (a :: (m ++ [z])) (pe ++ (a :: (m ++ [z])) :: se) ((pe ++ (a :: (m ++ [z])) :: se).length : Int) (pe.length : Int) inner (inner.length : Int) 0 n E T 0 else some false := fun k => by
            simp only [earOkW.j4]
          by_cases d : inner.Nodup
          · have H3 : ∀ K', kn n K' (addAll ks (a :: (m ++ [z]))) → ∃ b, Ev (fun k => earOkW.l0 k D K' (pe ++ (a :: (m ++ [z])) :: se) ((pe ++ (a :: (m ++ [z])) :: se).length : Int) (wrap64 ((pe.length : Int) + 1)) n E (T ++ ties (a :: (m ++ [z]))) 0) b ∧ (b = true ↔ earsOk n E false (T ++ ties (a :: (m ++ [z]))) (addAll ks (a :: (m ++ [z]))) se) := by
              intro K' hK'
              obtain ⟨b, e1, h1⟩ := ih (pe ++ [a :: (m ++ [z])]) (T ++ ties (a :: (m ++ [z]))) (addAll ks (a :: (m ++ [z]))) K' (by simpa using hb) (by rw [List.length_append, ties_len]; omega) hK' (nodup_addAll _ hn) (fun v hv => ((mem_addAll _ _ _).1 hv).elim (hr v) (hw.1 v)) (fun e => by simp at e)
              have f : ((((pe ++ [a :: (m ++ [z])]).length : Nat) : Int) == 0) = false := by rw [beq_eq_false_iff_ne]; simp; omega
              rw [f] at h1
              rw [show (pe ++ [a :: (m ++ [z])]) ++ se = pe ++ (a :: (m ++ [z])) :: se by simp] at e1
              rw [w_succ (t := a :: (m ++ [z])) hpl]
              exact ⟨b, e1, h1⟩
            obtain ⟨b, e1, h1⟩ := new_l1 (D := D) (E := E) (row := a :: (m ++ [z])) (ears := pe ++ (a :: (m ++ [z])) :: se) (len := ((pe ++ (a :: (m ++ [z])) :: se).length : Int)) (at_ := (pe.length : Int)) K T inner hK (fun v hv => hw.1 v (hin v hv)) hib (P := (∀ t ∈ ties (a :: (m ++ [z])), t ∉ T) ∧ earsOk n E false (T ++ ties (a :: (m ++ [z]))) (addAll ks (a :: (m ++ [z]))) se) (fun hnew => by
                have h3 := mark_l3 (D := D) (E := E) (len := ((pe ++ (a :: (m ++ [z])) :: se).length : Int)) (T ++ ties (a :: (m ++ [z]))) hw.1 hrb H3 (a :: (m ++ [z])) [] K rfl hK
                have h2 := ties_l2 (T := T) (P := earsOk n E false (T ++ ties (a :: (m ++ [z]))) (addAll ks (a :: (m ++ [z]))) se) K (hnd d hnew) hrb h3 (m ++ [z]) [] a rfl
                simpa [ties] using h2) inner [] rfl (by simp)
            refine ⟨b, Ev.step base4 (Ev.bind (Ev.eq (different_ev inner hib) (decide_eq_true d)) (by simp only [if_true]; exact e1)), ?_⟩
            rw [h1]
            exact ⟨fun h => ⟨d, h⟩, fun h => h.2⟩
          · refine ⟨false, Ev.step base4 (Ev.bind (Ev.eq (different_ev inner hib) (decide_eq_false d)) (by simp only [Bool.false_eq_true, if_false]; exact Ev.val rfl)), ?_⟩
            simp only [Bool.false_eq_true, false_iff]
            exact fun h => d h.1
        have c1 : 1 ≤ wrap64 (((a :: (m ++ [z])).length : Int) - 1) := by rw [hwl]; simp; omega
        have c2 : wrap64 (((a :: (m ++ [z])).length : Int) - 1) ≤ ((a :: (m ++ [z])).length : Int) := by rw [hwl]; omega
        have c3 : 1 ≤ ((a :: (m ++ [z])).length : Int) := by simp; omega
        have hmb : (m.length : Int) < big ∧ ((m ++ [z]).length : Int) < big := by simp at hrb ⊢; omega
        have J3t : Ev (fun k => earOkW.j3 k D K (pe.length : Int) (a :: (m ++ [z])) a z (pe ++ (a :: (m ++ [z])) :: se) ((pe ++ (a :: (m ++ [z])) :: se).length : Int) (pe.length : Int) true n E T 0) false := Ev.step (fun k => by simp only [earOkW.j3, if_true] <;> exact rfl) (Ev.val rfl)
        have base2 : ∀ k, earOkW.j2 (k + 1) D K (pe.length : Int) (a :: (m ++ [z])) (pe ++ (a :: (m ++ [z])) :: se) ((pe ++ (a :: (m ++ [z])) :: se).length : Int) (pe.length : Int) false n E T 0 =
            (if a = z then (if ((a :: (m ++ [z])).length : Int) < 4 then earOkW.j3 k D K (pe.length : Int) (a :: (m ++ [z])) a z (pe ++ (a :: (m ++ [z])) :: se) ((pe ++ (a :: (m ++ [z])) :: se).length : Int) (pe.length : Int) true n E T 0 else (if (pe.length : Int) = 0 then earOkW.j3 k D K (pe.length : Int) (a :: (m ++ [z])) a z (pe ++ (a :: (m ++ [z])) :: se) ((pe ++ (a :: (m ++ [z])) :: se).length : Int) (pe.length : Int) (a != z) n E T 0 else earOkW.j3 k D K (pe.length : Int) (a :: (m ++ [z])) a z (pe ++ (a :: (m ++ [z])) :: se) ((pe ++ (a :: (m ++ [z])) :: se).length : Int) (pe.length : Int) false n E T 0))
             else (if (pe.length : Int) = 0 then earOkW.j3 k D K (pe.length : Int) (a :: (m ++ [z])) a z (pe ++ (a :: (m ++ [z])) :: se) ((pe ++ (a :: (m ++ [z])) :: se).length : Int) (pe.length : Int) (a != z) n E T 0 else earOkW.j3 k D K (pe.length : Int) (a :: (m ++ [z])) a z (pe ++ (a :: (m ++ [z])) :: se) ((pe ++ (a :: (m ++ [z])) :: se).length : Int) (pe.length : Int) false n E T 0)) := fun k => by
          simp only [earOkW.j2, Bool.false_eq_true, if_false, if_pos hrl, if_pos r2, if_pos r3, r0, r1]
        have fin : ∀ b, Ev (fun k => earOkW.j2 k D K (pe.length : Int) (a :: (m ++ [z])) (pe ++ (a :: (m ++ [z])) :: se) ((pe ++ (a :: (m ++ [z])) :: se).length : Int) (pe.length : Int) false n E T 0) b → Ev (fun k => earOkW.l0 k D K (pe ++ (a :: (m ++ [z])) :: se) ((pe ++ (a :: (m ++ [z])) :: se).length : Int) (pe.length : Int) n E T 0) b := fun b h => Ev.step base (Ev.bind W h)
        have lp := lst_parts a m z
        have hp := hd_parts a m z
        have mp := mid_parts a m z
        by_cases l4 : a = z ∧ ((a :: (m ++ [z])).length : Int) < 4
        · refine ⟨false, fin _ (Ev.step base2 (by simp only [if_pos l4.1, if_pos l4.2]; exact J3t)), bad (fun h => ?_)⟩
          have := h.long (by rw [hp, lp]; exact l4.1)
          omega
        · have hlong : hdOf (a :: (m ++ [z])) = lstOf (a :: (m ++ [z])) → 4 ≤ (a :: (m ++ [z])).length := by
            rw [hp, lp]; intro e
            have : ¬ ((a :: (m ++ [z])).length : Int) < 4 := fun h => l4 ⟨e, h⟩
            omega
          by_cases cp : pe = []
          · have cp0 : (pe.length : Int) = 0 := by rw [cp]; rfl
            have ek := h0 cp
            by_cases az : a = z
            · have l4' : ¬ ((a :: (m ++ [z])).length : Int) < 4 := fun h => l4 ⟨az, h⟩
              have ne : (a != z) = false := by simp [az]
              have base3 : ∀ k, earOkW.j3 (k + 1) D K (pe.length : Int) (a :: (m ++ [z])) a z (pe ++ (a :: (m ++ [z])) :: se) ((pe ++ (a :: (m ++ [z])) :: se).length : Int) (pe.length : Int) false n E T 0 = earOkW.j4 k D K (a :: (m ++ [z])) (m ++ [z]) (pe ++ (a :: (m ++ [z])) :: se) ((pe ++ (a :: (m ++ [z])) :: se).length : Int) (pe.length : Int) n E T 0 := fun k => by
                simp only [earOkW.j3, Bool.false_eq_true, if_false, if_pos c1, if_pos c2, if_pos c3, if_pos cp0, List.drop_succ_cons, List.drop_zero]
              obtain ⟨b, e1, h1⟩ := J4 (m ++ [z]) (fun v hv => List.mem_cons_of_mem _ hv) hmb.2 (fun d _ => by
                rw [List.nodup_append] at d
                have hzm : z ∉ m := fun h => d.2.2 z h z (by simp) rfl
                exact ear_ties_nodup (n := n) (E := E) (taken := T) (ks := ks) (first := true) hl hlong (by rw [mp]; exact d.1) (by rw [hp, mp, az]; exact hzm) (by rw [lp, mp]; exact hzm))
              refine ⟨b, fin _ (Ev.step base2 (by simp only [if_pos az, if_neg l4', if_pos cp0, ne]; exact Ev.step base3 e1)), ?_⟩
              rw [h1, fst.2 cp]
              simp only [earsOk]
              constructor
              · rintro ⟨d, hnew, ht, he⟩
                rw [List.nodup_append] at d
                have hzm : z ∉ m := fun h => d.2.2 z h z (by simp) rfl
                exact ⟨⟨hl, hw.1, hw.2, fun _ => by rw [hp, lp]; exact az, fun h => Bool.noConfusion h, hlong, by rw [mp]; exact d.1, by rw [mp, hp]; exact fun v hv => ⟨hnew v (List.mem_append_left _ hv), fun e => hzm (by rw [← az, ← e]; exact hv)⟩, ht⟩, he⟩
              · rintro ⟨h, he⟩
                refine ⟨?_, fun v _ => by rw [ek]; simp, h.new, he⟩
                have hm := h.mid
                have hap := h.apart
                rw [mp] at hm
                rw [mp, hp] at hap
                rw [List.nodup_append]
                exact ⟨hm, by simp, fun x hx y hy e => by rw [List.mem_singleton] at hy; subst hy; subst e; exact (hap x hx).2 az.symm⟩
            · have ne : (a != z) = true := by simp [az]
              refine ⟨false, fin _ (Ev.step base2 (by simp only [if_neg az, if_pos cp0, ne]; exact J3t)), bad (fun h => ?_)⟩
              have := h.ring (fst.2 cp)
              rw [hp, lp] at this
              exact az this
          · have cp0 : ¬ (pe.length : Int) = 0 := fun h => cp (List.eq_nil_of_length_eq_zero (by omega))
            have ff : ((pe.length : Int) == 0) = false := Bool.eq_false_iff.2 (fun h => cp (fst.1 h))
            have ca : a < (K.length : Int) := hK1 a ha.2
            have cz : z < (K.length : Int) := hK1 z hz.2
            have tk : ((a :: (m ++ [z])).take (wrap64 (((a :: (m ++ [z])).length : Int) - 1)).toNat).drop 1 = m := by rw [hwl, Int.toNat_natCast]; exact (parts_take a m z).2
            have base3 : ∀ k, earOkW.j3 (k + 1) D K (pe.length : Int) (a :: (m ++ [z])) a z (pe ++ (a :: (m ++ [z])) :: se) ((pe ++ (a :: (m ++ [z])) :: se).length : Int) (pe.length : Int) false n E T 0 = if decide (a ∈ ks) = true then (if decide (z ∈ ks) = true then earOkW.j4 k D K (a :: (m ++ [z])) m (pe ++ (a :: (m ++ [z])) :: se) ((pe ++ (a :: (m ++ [z])) :: se).length : Int) (pe.length : Int) n E T 0 else some false) else some false := fun k => by
              simp only [earOkW.j3, Bool.false_eq_true, if_false, if_pos c1, if_pos c2, if_neg cp0, if_pos ha.1, if_pos hz.1, if_pos ca, if_pos cz, tk, hK.2 a ha.1 ha.2, hK.2 z hz.1 hz.2]
            have base2' : ∀ b, Ev (fun k => earOkW.j3 k D K (pe.length : Int) (a :: (m ++ [z])) a z (pe ++ (a :: (m ++ [z])) :: se) ((pe ++ (a :: (m ++ [z])) :: se).length : Int) (pe.length : Int) false n E T 0) b → Ev (fun k => earOkW.j2 k D K (pe.length : Int) (a :: (m ++ [z])) (pe ++ (a :: (m ++ [z])) :: se) ((pe ++ (a :: (m ++ [z])) :: se).length : Int) (pe.length : Int) false n E T 0) b := fun b h => by
              refine Ev.step base2 ?_
              by_cases az : a = z
              · simp only [if_pos az, if_neg (fun h => l4 ⟨az, h⟩), if_neg cp0]; exact h
              · simp only [if_neg az, if_neg cp0]; exact h
            by_cases ka : a ∈ ks
            · by_cases kz : z ∈ ks
              · obtain ⟨b, e1, h1⟩ := J4 m (fun v hv => List.mem_cons_of_mem _ (List.mem_append_left _ hv)) hmb.1 (fun d hnew => ear_ties_nodup (n := n) (E := E) (taken := T) (ks := ks) (first := false) hl hlong (by rw [mp]; exact d) (by rw [hp, mp]; exact fun h => hnew a h ka) (by rw [lp, mp]; exact fun h => hnew z h kz))
                refine ⟨b, fin _ (base2' _ (Ev.step base3 (by simp only [decide_eq_true ka, decide_eq_true kz, if_true]; exact e1))), ?_⟩
                rw [h1, ff]
                simp only [earsOk]
                constructor
                · rintro ⟨d, hnew, ht, he⟩
                  exact ⟨⟨hl, hw.1, hw.2, fun h => Bool.noConfusion h, fun _ => by rw [hp, lp]; exact ⟨ka, kz⟩, hlong, by rw [mp]; exact d, by rw [mp, hp]; exact fun v hv => ⟨hnew v hv, fun e => hnew v hv (e ▸ ka)⟩, ht⟩, he⟩
                · rintro ⟨h, he⟩
                  have hm := h.mid
                  have hap := h.apart
                  rw [mp] at hm hap
                  exact ⟨hm, fun v hv => (hap v hv).1, h.new, he⟩
              · refine ⟨false, fin _ (base2' _ (Ev.step base3 (by simp only [decide_eq_true ka, decide_eq_false kz, if_true, Bool.false_eq_true, if_false]; exact Ev.val rfl))), bad (fun h => ?_)⟩
                have := (h.ends ff).2
                rw [lp] at this
                exact kz this
            · refine ⟨false, fin _ (base2' _ (Ev.step base3 (by simp only [decide_eq_false ka, Bool.false_eq_true, if_false]; exact Ev.val rfl))), bad (fun h => ?_)⟩
              have := (h.ends ff).1
              rw [hp] at this
              exact ka this
      · have W := Ev.eq (walk_ev n E row hE hrb) (decide_eq_false hw)
        exact ⟨false, Ev.step base (Ev.bind W J2f), bad (fun h => hw ⟨h.knots, h.tied⟩)⟩
theorem implEarOk_ev (n : Int) (E : List S59) (ears : List (List Int)) (hE : (E.length : Int) < big) (hb : (ears.length : Int) < big) (hT : tot ears < 4000000) :
    ∃ b, Ev (fun k => impl_EarOk.f k n E ears) b ∧ (b = true ↔ earAll n E ears) := by
  have F : Ev (fun k => earOkW.j0 k ears [] true n E) false := Ev.step (fun k => by simp only [earOkW.j0, if_true] <;> exact rfl) (Ev.val rfl)
  unfold impl_EarOk.f earOkW.f
  by_cases c : ok n E
  · have K := Ev.eq (implOk n E hE) (decide_eq_true c)
    by_cases c1 : ears = []
    · refine ⟨false, Ev.bind K ?_, ?_⟩
      · simp only [if_true, c1, List.length_nil, Int.natCast_zero, beq_self_eq_true]
        rw [c1] at F
        exact F
      · simp only [Bool.false_eq_true, false_iff]
        exact fun h => h.2.1 c1
    · have n0 := c.1
      have n8 := c.2.1
      have hc : n.toNat ≤ 281474976710656 := by omega
      have cb : ((ears.length : Int) == 0) = false := by
        rw [beq_eq_false_iff_ne]
        exact fun h => c1 (List.eq_nil_of_length_eq_zero (by omega))
      have hK : kn n (List.replicate n.toNat false) [] := by
        refine ⟨by rw [List.length_replicate]; omega, fun v h0 h1 => ?_⟩
        unfold rdOf
        rw [List.getD_eq_getElem?_getD, List.getElem?_replicate]
        split <;> simp
      obtain ⟨b, e, h⟩ := earsI_l0 n E c [] ears [] [] [] (List.replicate n.toNat false) (by simpa using hb) (by simpa using hT) hK (by simp) (by simp) (fun _ => rfl)
      simp only [List.nil_append, List.length_nil, Int.natCast_zero, beq_self_eq_true] at e h
      refine ⟨b, Ev.bind K ?_, ?_⟩
      · simp only [if_true, cb]
        exact Ev.step (fun k => by simp only [earOkW.j0, Bool.false_eq_true, if_false, if_pos n0, if_pos hc] <;> exact rfl) e
      · rw [h]
        exact ⟨fun x => ⟨c, c1, x⟩, fun x => x.2.2⟩
  · refine ⟨false, Ev.bind (Ev.eq (implOk n E hE) (decide_eq_false c)) (by simp only [Bool.false_eq_true, if_false]; exact F), ?_⟩
    simp only [Bool.false_eq_true, false_iff]
    exact fun x => c x.1
end Go.Proofs.Ytgeonpciodepgaa.P

namespace Go.Proofs.Ytgeonpciodepgaa.P
open Go.RowKit Go.Proofs.YtgeonpciodepgaaW.PrintWords Go.Proofs.Ytgeonpciodepgaa.G

theorem rdL_mid (pre : List S100) (t : S100) (suf : List S100) : rd_T100 (pre ++ t :: suf) (pre.length : Int) = t := by
 unfold rd_T100; exact getD_mid pre t suf _

theorem szNet_some (n : Int) (l : List S100) (a : Int) (h0 : 0 ≤ a) (h1 : a ≤ 1048576) (hl : l.length ≤ 9223372036854775807) :
  laws_szNet.f n l a = some (if a - (l.length : Int) < 0 then -1 else a - l.length) := by
 unfold laws_szNet.f laws_szTieS.f
 rw [w64 (by omega) (by omega)]
 by_cases c : a - (l.length : Int) < 0
 ·simp [c]
 ·simp [c]
theorem szTieS_some (l : List S100) (a : Int) (h0 : 0 ≤ a) (h1 : a ≤ 1048576) (hl : l.length ≤ 9223372036854775807) :
  laws_szTieS.f l a = some (if a - (l.length : Int) < 0 then -1 else a - l.length) := by
 unfold laws_szTieS.f
 rw [w64 (by omega) (by omega)]
 by_cases c : a - (l.length : Int) < 0
 ·simp [c]
 ·simp [c]

theorem set_mid {α : Type} (pre : List α) (z t : α) (suf : List α) : (pre ++ z :: suf).set ((pre.length : Int)).toNat t = (pre ++ [t]) ++ suf := by
 simp [List.set_append]
theorem toTieS_l0 : ∀ (suf pre : List S100), ((pre ++ suf).length : Int) < big →
  Ev (fun k => laws_toTieS.l0 k (pre ++ suf) (pre ++ List.replicate suf.length z59) (pre.length : Int)) (pre ++ suf) := by
 intro suf
 induction suf with
 | nil =>
  intro pre hb
  refine Ev.step (fun k => by simp only [laws_toTieS.l0, nlt_end, if_false] <;> exact rfl) ?_
  exact Ev.val (by simp)
 | cons t suf ih =>
  intro pre hb
  have hp : (pre.length : Int) < big := len_mid hb
  have l2 : (pre.length : Int) < ((pre ++ List.replicate (t :: suf).length z59).length : Int) := by
   rw [List.length_append, List.length_replicate, List.length_cons]; omega
  refine Ev.step (fun k => by simp only [laws_toTieS.l0, laws_toTie.f, lt_mid, nn, if_true, rdL_mid, w_succ (t := t) hp, l2, Option.bind_some] <;> exact rfl) ?_
  have e : (pre ++ List.replicate (t :: suf).length z59).set ((pre.length : Int)).toNat (⟨t.f0, t.f1⟩ : S59) = (pre ++ [t]) ++ List.replicate suf.length z59 := set_mid pre _ t _
  rw [e, app_one pre t suf]
  exact ih (pre ++ [t]) (len_app hb)
theorem toTieS_ev (l : List S100) (hb : (l.length : Int) ≤ 1048576) : Ev (fun k => laws_toTieS.f k l) l := by
 unfold laws_toTieS.f
 have h1 : ((l.length : Int)).toNat ≤ 17592186044416 := by omega
 simp only [nn, if_true, h1, Int.toNat_natCast]
 have h2 : l.length ≤ 17592186044416 := by omega
 simp only [h2, if_true]
 exact toTieS_l0 l [] (by unfold big; simp; omega)
theorem toNet_ev (n : Int) (l : List S100) (hb : (l.length : Int) ≤ 1048576) : Ev (fun k => laws_toNet.f k n l) (n, l) := by
 unfold laws_toNet.f
 exact Ev.bind (toTieS_ev l hb) (Ev.val rfl)
theorem eqTieS_l0 : ∀ (suf p1 p2 : List S59), p1.length = p2.length → ((p1 ++ suf).length : Int) < big →
  Ev (fun k => laws_eqTieS.l0 k (p1 ++ suf) (p2 ++ suf) (p1.length : Int)) true := by
 intro suf
 induction suf with
 | nil =>
  intro p1 p2 e hb
  refine Ev.step (fun k => by simp only [laws_eqTieS.l0, nlt_end, if_false] <;> exact rfl) ?_
  exact Ev.val rfl
 | cons t suf ih =>
  intro p1 p2 e hb
  have hp : (p1.length : Int) < big := len_mid hb
  have l2 : (p1.length : Int) < ((p2 ++ t :: suf).length : Int) := by rw [e]; exact lt_mid _ _ _
  have r2 : rd_T59 (p2 ++ t :: suf) (p1.length : Int) = t := by rw [e]; exact rdI_mid _ _ _
  refine Ev.step (fun k => by simp only [laws_eqTieS.l0, laws_eqTie.f, lt_mid, nn, if_true, rdI_mid, w_succ (t := t) hp, l2, r2, Option.bind_some] <;> exact rfl) ?_
  rw [app_one p1 t suf, app_one p2 t suf]
  exact ih (p1 ++ [t]) (p2 ++ [t]) (by simp [e]) (len_app hb)
theorem eqTieS_refl (l : List S59) (hb : (l.length : Int) < big) : Ev (fun k => laws_eqTieS.f k l l) true := by
 unfold laws_eqTieS.f
 simp only [if_true]
 exact eqTieS_l0 l [] [] rfl hb
theorem eqNet_refl (n : Int) (l : List S59) (hb : (l.length : Int) < big) : Ev (fun k => laws_eqNet.f k n l n l) true := by
 unfold laws_eqNet.f
 simp only [if_true]
 exact Ev.bind (eqTieS_refl l hb) (Ev.val rfl)
end Go.Proofs.Ytgeonpciodepgaa.P

namespace Go.Proofs.Ytgeonpciodepgaa.P
open Go.RowKit Go.Proofs.YtgeonpciodepgaaW.PrintWords Go.Proofs.Ytgeonpciodepgaa.G
theorem eqIntS_l0 : ∀ (suf p1 p2 : List Int), p1.length = p2.length → ((p1 ++ suf).length : Int) < big →
  Ev (fun k => laws_eqIntS.l0 k (p1 ++ suf) (p2 ++ suf) (p1.length : Int)) true := by
 intro suf
 induction suf with
 | nil =>
  intro p1 p2 e hb
  refine Ev.step (fun k => by simp only [laws_eqIntS.l0, nlt_end, if_false] <;> exact rfl) ?_
  exact Ev.val rfl
 | cons t suf ih =>
  intro p1 p2 e hb
  have hp : (p1.length : Int) < big := len_mid hb
  have l2 : (p1.length : Int) < ((p2 ++ t :: suf).length : Int) := by rw [e]; exact lt_mid _ _ _
  have r2 : rd (p2 ++ t :: suf) (p1.length : Int) = t := by rw [e]; exact rd_mid _ _ _
  refine Ev.step (fun k => by simp only [laws_eqIntS.l0, lt_mid, nn, if_true, rd_mid, w_succ (t := t) hp, l2, r2] <;> exact rfl) ?_
  rw [app_one p1 t suf, app_one p2 t suf]
  exact ih (p1 ++ [t]) (p2 ++ [t]) (by simp [e]) (len_app hb)
theorem eqIntS_refl (l : List Int) (hb : (l.length : Int) < big) : Ev (fun k => laws_eqIntS.f k l l) true := by
 unfold laws_eqIntS.f
 simp only [if_true]
 exact eqIntS_l0 l [] [] rfl hb
end Go.Proofs.Ytgeonpciodepgaa.P

namespace Go.Proofs.Ytgeonpciodepgaa.P
open Go.RowKit Go.Proofs.YtgeonpciodepgaaW.PrintWords Go.Proofs.Ytgeonpciodepgaa.G

theorem set_mid' {α : Type} (pre : List α) (z t : α) (suf : List α) : (pre ++ z :: suf).set ((pre.length : Int)).toNat t = (pre ++ [t]) ++ suf := by
 simp [List.set_append]
theorem toIntS_l0 : ∀ (suf pre : List Int), ((pre ++ suf).length : Int) < big →
  Ev (fun k => laws_toIntS.l0 k (pre ++ suf) (pre ++ List.replicate suf.length 0) (pre.length : Int)) (pre ++ suf) := by
 intro suf
 induction suf with
 | nil =>
  intro pre hb
  refine Ev.step (fun k => by simp only [laws_toIntS.l0, nlt_end, if_false] <;> exact rfl) ?_
  exact Ev.val (by simp)
 | cons t suf ih =>
  intro pre hb
  have hp : (pre.length : Int) < big := len_mid hb
  have l2 : (pre.length : Int) < ((pre ++ List.replicate (t :: suf).length (0 : Int)).length : Int) := by
   rw [List.length_append, List.length_replicate, List.length_cons]; omega
  refine Ev.step (fun k => by simp only [laws_toIntS.l0, lt_mid, nn, if_true, rd_mid, w_succ (t := t) hp, l2] <;> exact rfl) ?_
  have e : (pre ++ List.replicate (t :: suf).length (0 : Int)).set ((pre.length : Int)).toNat t = (pre ++ [t]) ++ List.replicate suf.length 0 := set_mid' pre _ t _
  rw [e, app_one pre t suf]
  exact ih (pre ++ [t]) (len_app hb)
theorem toIntS_ev (l : List Int) (hb : (l.length : Int) ≤ 1048576) : Ev (fun k => laws_toIntS.f k l) l := by
 unfold laws_toIntS.f
 have h1 : ((l.length : Int)).toNat ≤ 35184372088832 := by omega
 simp only [nn, if_true, h1, Int.toNat_natCast]
 have h2 : l.length ≤ 35184372088832 := by omega
 simp only [h2, if_true]
 exact toIntS_l0 l [] (by unfold big; simp; omega)
end Go.Proofs.Ytgeonpciodepgaa.P

namespace Go.Proofs.Ytgeonpciodepgaa.P
open Go.RowKit Go.Proofs.YtgeonpciodepgaaW.PrintWords Go.Proofs.Ytgeonpciodepgaa.G
theorem szIntS_some (l : List Int) (a : Int) (h0 : 0 ≤ a) (h1 : a ≤ 1048576) (hl : l.length ≤ 9223372036854775807) : laws_szIntS.f l a = some (if a - (l.length : Int) < 0 then -1 else a - (l.length : Int)) := by
 unfold laws_szIntS.f
 rw [w64 (by omega) (by omega)]
 by_cases c : a - (l.length : Int) < 0
 ·rw [if_pos c, if_pos c]
 ·rw [if_neg c, if_neg c]
theorem szIntSS_l0 : ∀ (suf p : List (List Int)) (x : Int), 0 ≤ x → x ≤ 1048576 → (∀ r ∈ suf, r.length ≤ 9223372036854775807) → ((p ++ suf).length : Int) < big →
  ∃ v, Ev (fun k => laws_szIntSS.l0 k (p ++ suf) x (p.length : Int)) v ∧ (v < 0 ∨ (tot suf : Int) ≤ x) := by
 intro suf
 induction suf with
 | nil =>
  intro p x h0 h1 hr hb
  exact ⟨x, Ev.step (fun k => by simp only [laws_szIntSS.l0, nlt_end, if_false] <;> exact rfl) (Ev.val rfl), Or.inr (by simp [tot]; exact h0)⟩
 | cons t suf ih =>
  intro p x h0 h1 hr hb
  have hp : (p.length : Int) < big := len_mid hb
  have e := szIntS_some t x h0 h1 (hr t (by simp))
  by_cases c : x - (t.length : Int) < 0
  ·rw [if_pos c] at e
   refine ⟨-1, Ev.step (fun k => by simp only [laws_szIntSS.l0, lt_mid, nn, if_true, rdL2_mid, e, Option.bind_some, show ((-1 : Int) < 0) = True from eq_true (by decide)] <;> exact rfl) (Ev.val rfl), Or.inl (by decide)⟩
  ·rw [if_neg c] at e
   obtain ⟨v, e1, h⟩ := ih (p ++ [t]) (x - (t.length : Int)) (by omega) (by omega) (fun r k => hr r (by simp [k])) (len_app hb)
   rw [← app_one] at e1
   refine ⟨v, Ev.step (fun k => by simp only [laws_szIntSS.l0, lt_mid, nn, if_true, rdL2_mid, e, Option.bind_some, if_neg c, w_succ (t := t) hp] <;> exact rfl) e1, h.imp id (fun h => by simp only [tot]; omega)⟩
theorem szIntSS_ev (l : List (List Int)) (a : Int) (h0 : 0 ≤ a) (h1 : a ≤ 1048576) (hl : l.length ≤ 9223372036854775807) (hr : ∀ r ∈ l, r.length ≤ 9223372036854775807) :
  ∃ v, Ev (fun k => laws_szIntSS.f k l a) v ∧ (v < 0 ∨ (l.length : Int) + (tot l : Int) ≤ a) := by
 unfold laws_szIntSS.f
 have w : wrap64 (a - (l.length : Int)) = a - (l.length : Int) := w64 (by omega) (by omega)
 by_cases c : a - (l.length : Int) < 0
 ·refine ⟨-1, ?_, Or.inl (by decide)⟩
  simp only [w, if_pos c]
  exact Ev.val rfl
 ·obtain ⟨v, e, h⟩ := szIntSS_l0 l [] (a - (l.length : Int)) (by omega) (by omega) hr (by unfold big; simp; omega)
  refine ⟨v, ?_, h.imp id (fun h => by omega)⟩
  simp only [w, if_neg c]
  exact e
theorem tot_mem {r : List Int} : ∀ {l : List (List Int)}, r ∈ l → r.length ≤ tot l
 | x :: l, h => by
  simp only [tot]
  rcases List.mem_cons.1 h with rfl | h
  ·omega
  ·have := tot_mem h; omega
theorem toIntSS_l0 : ∀ (suf pre : List (List Int)), ((pre ++ suf).length : Int) < big → tot suf ≤ 1048576 →
  Ev (fun k => laws_toIntSS.l0 k (pre ++ suf) (pre ++ List.replicate suf.length []) (pre.length : Int)) (pre ++ suf) := by
 intro suf
 induction suf with
 | nil =>
  intro pre hb ht
  refine Ev.step (fun k => by simp only [laws_toIntSS.l0, nlt_end, if_false] <;> exact rfl) ?_
  exact Ev.val (by simp)
 | cons t suf ih =>
  intro pre hb ht
  simp only [tot] at ht
  have hp : (pre.length : Int) < big := len_mid hb
  have l2 : (pre.length : Int) < ((pre ++ List.replicate (t :: suf).length ([] : List Int)).length : Int) := by
   rw [List.length_append, List.length_replicate, List.length_cons]; omega
  have e : (pre ++ List.replicate (t :: suf).length ([] : List Int)).set ((pre.length : Int)).toNat t = (pre ++ [t]) ++ List.replicate suf.length [] := set_mid' pre _ t _
  refine Ev.step (fun k => by simp only [laws_toIntSS.l0, lt_mid, nn, if_true, rdL2_mid, w_succ (t := t) hp, l2] <;> exact rfl) (Ev.bind (toIntS_ev t (by omega)) ?_)
  simp only [e]
  rw [app_one pre t suf]
  exact ih (pre ++ [t]) (len_app hb) (by omega)
theorem toIntSS_ev (l : List (List Int)) (hb : (l.length : Int) ≤ 1048576) (ht : tot l ≤ 1048576) : Ev (fun k => laws_toIntSS.f k l) l := by
 unfold laws_toIntSS.f
 have h1 : ((l.length : Int)).toNat ≤ 11728124029610 := by omega
 simp only [nn, if_true, h1, Int.toNat_natCast]
 have h2 : l.length ≤ 11728124029610 := by omega
 simp only [h2, if_true]
 exact toIntSS_l0 l [] (by unfold big; simp; omega) ht
theorem eqIntSS_l0 : ∀ (suf p1 p2 : List (List Int)), p1.length = p2.length → ((p1 ++ suf).length : Int) < big → tot suf ≤ 1048576 →
  Ev (fun k => laws_eqIntSS.l0 k (p1 ++ suf) (p2 ++ suf) (p1.length : Int)) true := by
 intro suf
 induction suf with
 | nil =>
  intro p1 p2 e hb ht
  refine Ev.step (fun k => by simp only [laws_eqIntSS.l0, nlt_end, if_false] <;> exact rfl) ?_
  exact Ev.val rfl
 | cons t suf ih =>
  intro p1 p2 e hb ht
  simp only [tot] at ht
  have hp : (p1.length : Int) < big := len_mid hb
  have l2 : (p1.length : Int) < ((p2 ++ t :: suf).length : Int) := by rw [e]; exact lt_mid _ _ _
  have r2 : rd_L2 (p2 ++ t :: suf) (p1.length : Int) = t := by rw [e]; exact rdL2_mid _ _ _
  refine Ev.step (fun k => by simp only [laws_eqIntSS.l0, lt_mid, nn, if_true, rdL2_mid, w_succ (t := t) hp, l2, r2] <;> exact rfl) (Ev.bind (eqIntS_refl t (by unfold big; omega)) ?_)
  simp only [if_true]
  rw [app_one p1 t suf, app_one p2 t suf]
  exact ih (p1 ++ [t]) (p2 ++ [t]) (by simp [e]) (len_app hb) (by omega)
theorem eqIntSS_refl (l : List (List Int)) (hb : (l.length : Int) < big) (ht : tot l ≤ 1048576) : Ev (fun k => laws_eqIntSS.f k l l) true := by
 unfold laws_eqIntSS.f
 simp only [if_true]
 exact eqIntSS_l0 l [] [] rfl hb ht
end Go.Proofs.Ytgeonpciodepgaa.P

namespace Go.Proofs.Ytgeonpciodepgaa.P
open Go.RowKit Go.Proofs.YtgeonpciodepgaaW.PrintWords Go.Proofs.Ytgeonpciodepgaa.G
theorem FnExactEarOk_pure (n : Int) (l : List S100) (s : List (List Int)) (hl : l.length ≤ 9223372036854775807) (hs : s.length ≤ 9223372036854775807) (hr : ∀ r ∈ s, r.length ≤ 9223372036854775807) : ∃ k, laws_FnExactEarOk.f k n l s = some true := by
 refine Ev.rounds ?_
 unfold laws_FnExactEarOk.f
 simp only [szNet_some n l 1048576 (by omega) (by omega) hl, Option.bind_some]
 by_cases d : 1048576 - (l.length : Int) < 0
 ·simp only [if_pos d]; exact Ev.val rfl
 simp only [if_neg d]
 have hL : (l.length : Int) ≤ 1048576 := by omega
 have hLb : (l.length : Int) < big := by unfold big; omega
 obtain ⟨v, ev, hv⟩ := szIntSS_ev s (1048576 - (l.length : Int)) (by omega) (by omega) hs hr
 refine Ev.bind ev ?_
 by_cases c : v < 0
 ·simp only [if_pos c]; exact Ev.val rfl
 simp only [if_neg c]
 have hv' : (s.length : Int) + (tot s : Int) ≤ 1048576 - (l.length : Int) := hv.resolve_left c
 have hS : (s.length : Int) ≤ 1048576 := by omega
 have hT : tot s ≤ 1048576 := by omega
 have hSb : (s.length : Int) < big := by unfold big; omega
 obtain ⟨b1, e1, h1⟩ := specEarOk_ev n l s hLb hSb (by omega)
 obtain ⟨b2, e2, h2⟩ := implEarOk_ev n l s hLb hSb (by omega)
 have hb : b2 = b1 := by
  cases b1 <;> cases b2 <;> simp_all
 subst hb
 refine Ev.bind (toNet_ev n l hL) ?_
 refine Ev.bind (toIntSS_ev s hS hT) ?_
 refine Ev.bind e1 ?_
 refine Ev.bind (toNet_ev n l hL) ?_
 refine Ev.bind (toIntSS_ev s hS hT) ?_
 refine Ev.bind e2 ?_
 simp only [bne_self_eq_false, Bool.false_eq_true, if_false]
 refine Ev.bind (toNet_ev n l hL) ?_
 refine Ev.bind (eqNet_refl n l hLb) ?_
 simp only [if_true]
 refine Ev.bind (toIntSS_ev s hS hT) ?_
 refine Ev.bind (eqIntSS_refl s hSb hT) ?_
 exact Ev.val rfl
end Go.Proofs.Ytgeonpciodepgaa.P

namespace Go.Proofs.Ytgeonpciodepgaa.P
open Go.RowKit Go.Proofs.YtgeonpciodepgaaW.PrintWords Go.ChangeShapes Go.WideShapes Go.Deep

theorem read_ties {H : Type} {enc : TypeId × Value → H} {w : World} {base : Nat} {spare : Nat → Bool} {held : Bool} {fuel : Nat} {cs : List Value} {x : DataW H × List MemPlace}
  (h : DataW.trod enc Try.prog w base spare held fuel 22 cs = some x) :
  ∃ (A : Option Addr) (c : Nat) (l : List S100), cs = [.slice A l.length c] ∧ l.length ≤ c ∧ Kd.C k100 w A l.length l ∧ ∀ t ∈ l, (Lit.int .i64 t.f0).wf = true ∧ (Lit.int .i64 t.f1).wf = true := by
 rcases open_slice_pairs Try.underlying22 Try.underlying100 (by kernel_rfl) rfl rfl (by kernel_rfl) (by kernel_rfl) h with ⟨rfl, _⟩ | ⟨a, len, cap, m, n, V0, V1, D0, D1, P0, P1, rfl, hb, hl, hm, hmm, hx, hi⟩
 ·exact ⟨none, 0, [], rfl, Nat.le_refl _, ⟨rfl, by simp, fun h => by simp at h⟩, fun t ht => by simp at ht⟩
 ·have hlm : len ≤ m := by rw [hmm]; split <;> omega
  have key : ∀ i, i < len → ∃ t : S100, w.cell? (a.add (i * 2)) = some (.int .i64 t.f0) ∧ w.cell? (a.add (i * 2 + 1)) = some (.int .i64 t.f1) ∧ (Lit.int .i64 t.f0).wf = true ∧ (Lit.int .i64 t.f1).wf = true := by
   intro i hil
   obtain ⟨h0, h1, r0, r1⟩ := hi i (by omega)
   obtain ⟨n0, e0, _, w0⟩ := DataW.trod_int Try.underlying3 r0
   obtain ⟨n1, e1, _, w1⟩ := DataW.trod_int Try.underlying3 r1
   simp only [List.cons.injEq, and_true] at e0 e1
   exact ⟨⟨n0, n1⟩, by rw [h0, e0], by rw [h1, e1], w0, w1⟩
  haveI : Inhabited S100 := ⟨z100⟩
  obtain ⟨f, hf⟩ := choose_lt key
  refine ⟨some a, cap, (List.range len).map f, by simp, by simpa using hl, ⟨by simp, ?_, fun _ => ⟨a, rfl, fun j p hj => ?_⟩⟩, fun t ht => ?_⟩
  ·unfold maxLen at hm; simp; omega
  ·obtain ⟨hj1, hj2⟩ := List.getElem?_eq_some_iff.1 hj
   simp at hj1 hj2
   obtain ⟨h0, h1, _, _⟩ := hf j hj1
   subst hj2
   refine ⟨[.int .i64 (f j).f0, .int .i64 (f j).f1], rfl, k100_mk w (f j), fun i u hu => ?_⟩
   match i, hu with
   | 0, hu => simp at hu; subst hu; exact h0
   | 1, hu => simp at hu; subst hu; exact h1
  ·simp at ht
   obtain ⟨i, hil, rfl⟩ := ht
   exact (hf i hil).2.2
end Go.Proofs.Ytgeonpciodepgaa.P

namespace Go.Proofs.Ytgeonpciodepgaa.P
open Go.RowKit Go.Proofs.YtgeonpciodepgaaW.PrintWords Go.ChangeShapes Go.WideShapes Go.Deep

theorem read_ints {H : Type} {enc : TypeId × Value → H} {Pr : Program} {t e : TypeId} {k : IntKind} (ht : Pr.underlying t = some (.slice e)) (he : Pr.underlying e = some (.int k)) (hc : Pr.cellsOf e = 1) {w : World} {base : Nat} {spare : Nat → Bool} {held : Bool} {fuel : Nat} {cs : List Value} {x : DataW H × List MemPlace}
  (h : DataW.trod enc Pr w base spare held fuel t cs = some x) :
  ∃ (A : Option Addr) (c : Nat) (l : List Int), cs = [.slice A l.length c] ∧ l.length ≤ c ∧ Kd.C (Kd.int k) w A l.length l ∧ ∀ n ∈ l, (Lit.int k n).wf = true := by
 rcases open_slice1 ht hc h with ⟨rfl, _⟩ | ⟨a, len, cap, m, n, V, D, Pl, rfl, hb, hl, hm, hmm, hx, hi⟩
 ·exact ⟨none, 0, [], rfl, Nat.le_refl _, ⟨rfl, by simp, fun h => by simp at h⟩, fun t ht => by simp at ht⟩
 ·have hlm : len ≤ m := by rw [hmm]; split <;> omega
  have key : ∀ i, i < len → ∃ z : Int, w.cell? (a.add i) = some (.int k z) ∧ (Lit.int k z).wf = true := by
   intro i hil
   obtain ⟨h0, r0⟩ := hi i (by omega)
   obtain ⟨n0, e0, _, w0⟩ := DataW.trod_int he r0
   simp only [List.cons.injEq, and_true] at e0
   exact ⟨n0, by rw [h0, e0], w0⟩
  obtain ⟨f, hf⟩ := choose_lt key
  refine ⟨some a, cap, (List.range len).map f, by simp, by simpa using hl, ⟨by simp, ?_, fun _ => ⟨a, rfl, fun j p hj => ?_⟩⟩, fun t ht => ?_⟩
  ·unfold maxLen at hm; simp; omega
  ·obtain ⟨hj1, hj2⟩ := List.getElem?_eq_some_iff.1 hj
   simp at hj1 hj2
   subst hj2
   refine ⟨[.int k (f j)], rfl, rfl, fun i u hu => ?_⟩
   match i, hu with
   | 0, hu =>
    simp at hu; subst hu
    have : j * (Kd.int k).sz + 0 = j := Nat.mul_one j
    rw [this]
    exact (hf j hj1).1
  ·simp at ht
   obtain ⟨i, hil, rfl⟩ := ht
   exact (hf i hil).2
end Go.Proofs.Ytgeonpciodepgaa.P

namespace Go.Proofs.Ytgeonpciodepgaa.P
open Go.RowKit Go.Proofs.YtgeonpciodepgaaW.PrintWords Go.ChangeShapes Go.WideShapes Go.Deep

theorem read_rows {H : Type} {enc : TypeId × Value → H} {w : World} {base : Nat} {spare : Nat → Bool} {held : Bool} {fuel : Nat} {cs : List Value} {x : DataW H × List MemPlace}
  (h : DataW.trod enc Try.prog w base spare held fuel 25 cs = some x) :
  ∃ (A : Option Addr) (c : Nat) (l : List (List Int)), cs = [.slice A l.length c] ∧ l.length ≤ c ∧ Kd.C (Kd.slice 3 (Kd.int .i64)) w A l.length l ∧ ∀ r ∈ l, r.length ≤ 9223372036854775807 := by
 rcases open_slice1 Try.underlying25 (by kernel_rfl) h with ⟨rfl, _⟩ | ⟨a, len, cap, m, n, V, D, Pl, rfl, hb, hl, hm, hmm, hx, hi⟩
 ·exact ⟨none, 0, [], rfl, Nat.le_refl _, ⟨rfl, by simp, fun h => by simp at h⟩, fun t ht => by simp at ht⟩
 ·have hlm : len ≤ m := by rw [hmm]; split <;> omega
  have key : ∀ i, i < len → ∃ z : List Int, ∃ A c, w.cell? (a.add i) = some (.slice A z.length c) ∧ z.length ≤ c ∧ Kd.C (Kd.int .i64) w A z.length z := by
   intro i hil
   obtain ⟨h0, r0⟩ := hi i (by omega)
   obtain ⟨A, c, l, e0, h1, h2, _⟩ := read_ints Try.underlying45 Try.underlying3 (by kernel_rfl) r0
   simp only [List.cons.injEq, and_true] at e0
   exact ⟨l, A, c, by rw [h0, e0], h1, h2⟩
  obtain ⟨f, hf⟩ := choose_lt key
  refine ⟨some a, cap, (List.range len).map f, by simp, by simpa using hl, ⟨by simp, ?_, fun _ => ⟨a, rfl, fun j p hj => ?_⟩⟩, fun t ht => ?_⟩
  ·unfold maxLen at hm; simp; omega
  ·obtain ⟨hj1, hj2⟩ := List.getElem?_eq_some_iff.1 hj
   simp at hj1 hj2
   subst hj2
   obtain ⟨A, c, h1, h2, h3⟩ := hf j hj1
   refine ⟨[.slice A (f j).length c], rfl, ⟨A, c, rfl, h2, h3⟩, fun i u hu => ?_⟩
   match i, hu with
   | 0, hu =>
    simp at hu; subst hu
    have : j * (Kd.slice 3 (Kd.int .i64)).sz + 0 = j := Nat.mul_one j
    rw [this]
    exact h1
  ·simp at ht
   obtain ⟨i, hil, rfl⟩ := ht
   obtain ⟨A, c, h1, h2, h3⟩ := hf i hil
   exact h3.2.1
end Go.Proofs.Ytgeonpciodepgaa.P
