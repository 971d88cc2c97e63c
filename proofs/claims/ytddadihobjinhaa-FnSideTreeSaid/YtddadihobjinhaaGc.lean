/- Knots that hang together: plain facts. -/
import Derived.Test.YtddadihobjinhaaGt
namespace Go.Proofs.Ytddadihobjinhaa.G
set_option linter.unusedSimpArgs false
set_option linter.unusedVariables false
open Go.RowKit Go.Proofs.YtddadihobjinhaaW.PrintWords
/-- a way leads from one to the other -/
inductive Conn (E : List Tie) : Int → Int → Prop
  | refl (a : Int) : Conn E a a
  | step {a b c : Int} : Conn E a b → tieOf b c ∈ E → Conn E a c
theorem Conn.one {E : List Tie} {a b : Int} (h : tieOf a b ∈ E) : Conn E a b := .step (.refl a) h
theorem Conn.trans {E : List Tie} {a b c : Int} (h : Conn E a b) (k : Conn E b c) : Conn E a c := by
  induction k with
  | refl => exact h
  | step _ t ih => exact .step ih t
theorem Conn.symm {E : List Tie} {a b : Int} (h : Conn E a b) : Conn E b a := by
  induction h with
  | refl => exact .refl _
  | step _ t ih => exact (Conn.one (tieOf_comm _ _ ▸ t)).trans ih
theorem Conn.mono {E F : List Tie} {a b : Int} (h : Conn E a b) (hs : ∀ t ∈ E, t ∈ F) : Conn F a b := by
  induction h with
  | refl => exact .refl _
  | step _ t ih => exact .step ih (hs _ t)
/-- what a closed property holds of -/
theorem Conn.closed {E : List Tie} {a b : Int} (h : Conn E a b) (p : Int → Prop) (ha : p a) (hc : ∀ x y, p x → tieOf x y ∈ E → p y) : p b := by
  induction h with
  | refl => exact ha
  | step _ t ih => exact hc _ _ ih t
theorem Conn.range {n : Int} {E : List Tie} (hE : ∀ t ∈ E, inr n t) {a b : Int} (h : Conn E a b) (ha : 0 ≤ a ∧ a < n) : 0 ≤ b ∧ b < n :=
  h.closed (fun x => 0 ≤ x ∧ x < n) ha (fun _ _ _ ht => (tieOf_ends (hE _ ht)).2.1)
theorem Conn.tie {E : List Tie} {t : Tie} (ht : t ∈ E) (h : t.f0 < t.f1) : Conn E t.f0 t.f1 := Conn.one (by rw [tieOf_lt h]; exact ht)

/-- a bool that says whether something is so -/
def EvP (g : Nat → Option Bool) (P : Prop) : Prop := ∃ b : Bool, Ev g b ∧ (b = true ↔ P)
theorem EvP.of {g : Nat → Option Bool} {P : Prop} [Decidable P] (h : Ev g (decide P)) : EvP g P := ⟨_, h, by simp⟩
theorem EvP.iff {g : Nat → Option Bool} {P Q : Prop} (h : EvP g P) (e : P ↔ Q) : EvP g Q := by
  obtain ⟨b, h1, h2⟩ := h
  exact ⟨b, h1, h2.trans e⟩
theorem EvP.true_ {P : Prop} (h : P) : EvP (fun _ => some true) P := ⟨true, ⟨0, fun _ _ => rfl⟩, by simp [h]⟩
theorem EvP.false_ {P : Prop} (h : ¬ P) : EvP (fun _ => some false) P := ⟨false, ⟨0, fun _ _ => rfl⟩, by simp [h]⟩
theorem EvP.step {g f : Nat → Option Bool} {P : Prop} (h : ∀ k, g (k + 1) = f k) (k : EvP f P) : EvP g P := by
  obtain ⟨b, h1, h2⟩ := k
  exact ⟨b, Ev.step h h1, h2⟩
theorem EvP.bind {α : Type} {g : Nat → Option α} {f : Nat → α → Option Bool} {a : α} {P : Prop} (h : Ev g a) (k : EvP (fun n => f n a) P) : EvP (fun n => (g n).bind (f n)) P := by
  obtain ⟨b, h1, h2⟩ := k
  exact ⟨b, Ev.bind h h1, h2⟩
/-- on a bool that says whether Q: both ways -/
theorem EvP.test {g : Nat → Option Bool} {f : Nat → Bool → Option Bool} {P Q : Prop} (h : EvP g Q) (kt : Q → EvP (fun n => f n true) P) (kf : ¬ Q → EvP (fun n => f n false) P) : EvP (fun n => (g n).bind (f n)) P := by
  obtain ⟨b, h1, h2⟩ := h
  cases b with
  | true => exact EvP.bind h1 (kt (h2.1 rfl))
  | false => exact EvP.bind h1 (kf (fun q => by have := h2.2 q; simp at this))
theorem EvP.same {g f : Nat → Option Bool} {P : Prop} (h : EvP g P) (k : EvP f P) : ∃ b, Ev g b ∧ Ev f b := by
  obtain ⟨b, h1, h2⟩ := h
  obtain ⟨c, k1, k2⟩ := k
  have : b = c := by
    rw [Bool.eq_iff_iff]; exact h2.trans k2.symm
  exact ⟨b, h1, this ▸ k1⟩

/-! ### lists without repetition -/
theorem nodup_len_le {α : Type} [DecidableEq α] : ∀ {l m : List α}, l.Nodup → (∀ x ∈ l, x ∈ m) → l.length ≤ m.length
  | [], m, _, _ => Nat.zero_le _
  | a :: l, m, h, hs => by
    obtain ⟨h1, h2⟩ := List.nodup_cons.1 h
    have ha : a ∈ m := hs a (List.mem_cons_self)
    have : l.length ≤ (m.erase a).length := nodup_len_le h2 (fun x hx => (List.mem_erase_of_ne (fun (e : x = a) => h1 (by rw [← e]; exact hx))).2 (hs x (List.mem_cons_of_mem _ hx)))
    rw [List.length_erase_of_mem ha] at this
    have : 0 < m.length := List.length_pos_of_mem ha
    simp only [List.length_cons]
    omega
theorem nodup_len_eq {α : Type} [DecidableEq α] {l m : List α} (hl : l.Nodup) (hm : m.Nodup) (h : ∀ x, x ∈ l ↔ x ∈ m) : l.length = m.length :=
  Nat.le_antisymm (nodup_len_le hl (fun x hx => (h x).1 hx)) (nodup_len_le hm (fun x hx => (h x).2 hx))
theorem nodup_map {α β : Type} (f : α → β) : ∀ {l : List α}, l.Nodup → (∀ x ∈ l, ∀ y ∈ l, f x = f y → x = y) → (l.map f).Nodup
  | [], _, _ => by simp
  | a :: l, h, hf => by
    obtain ⟨h1, h2⟩ := List.nodup_cons.1 h
    rw [List.map_cons, List.nodup_cons]
    refine ⟨fun hm => ?_, nodup_map f h2 (fun x hx y hy => hf x (List.mem_cons_of_mem _ hx) y (List.mem_cons_of_mem _ hy))⟩
    obtain ⟨y, hy, e⟩ := List.mem_map.1 hm
    have := hf a (List.mem_cons_self) y (List.mem_cons_of_mem _ hy) e.symm
    exact h1 (this ▸ hy)
/-- the knots of a net -/
def knots (n : Int) : List Int := (List.range n.toNat).map fun (i : Nat) => (i : Int)
theorem mem_knots {n v : Int} : v ∈ knots n ↔ 0 ≤ v ∧ v < n := by
  unfold knots
  rw [List.mem_map]
  constructor
  · rintro ⟨i, hi, rfl⟩
    have := List.mem_range.1 hi
    omega
  · rintro ⟨h0, h1⟩
    exact ⟨v.toNat, List.mem_range.2 (by omega), by omega⟩
theorem knots_nodup (n : Int) : (knots n).Nodup := nodup_map _ List.nodup_range (fun x _ y _ e => Int.ofNat.inj e)
theorem knots_len (n : Int) : (knots n).length = n.toNat := by simp [knots]
theorem knots_succ {n : Int} (h : 0 ≤ n) : knots (n + 1) = knots n ++ [n] := by
  unfold knots
  have : (n + 1).toNat = n.toNat + 1 := by omega
  rw [this, List.range_succ, List.map_append]
  simp
  omega
/-- the knots that one is tied to, ascending -/
def next (n : Int) (E : List Tie) (v : Int) : List Int := (knots n).filter fun i => decide (tieOf v i ∈ E)
theorem mem_next {n v i : Int} {E : List Tie} (hE : ∀ t ∈ E, inr n t) : i ∈ next n E v ↔ tieOf v i ∈ E := by
  unfold next
  rw [List.mem_filter, mem_knots]
  simp only [decide_eq_true_eq]
  exact ⟨fun h => h.2, fun h => ⟨(tieOf_ends (hE _ h)).2.1, h⟩⟩
theorem next_nodup (n : Int) (E : List Tie) (v : Int) : (next n E v).Nodup := (knots_nodup n).sublist List.filter_sublist
/-- how many ties a knot has -/
def deg (E : List Tie) (v : Int) : Nat := (E.filter fun t => decide (t.f0 = v ∨ t.f1 = v)).length
theorem tieOf_inj {v i j : Int} (h : tieOf v i = tieOf v j) : i = j := by
  unfold tieOf at h
  by_cases a : v < i <;> by_cases b : v < j <;> simp [a, b] at h <;> omega
theorem next_len {n v : Int} {E : List Tie} (hE : ok n E) : (next n E v).length = deg E v := by
  have hi := hE.2.2.1
  have e : (next n E v).length = ((next n E v).map (tieOf v)).length := by simp
  rw [e]
  unfold deg
  refine nodup_len_eq (nodup_map _ (next_nodup n E v) (fun x _ y _ h => tieOf_inj h)) ((asc_nodup hE.2.2.2).sublist List.filter_sublist) (fun t => ?_)
  rw [List.mem_map, List.mem_filter]
  simp only [decide_eq_true_eq]
  constructor
  · rintro ⟨i, h, rfl⟩
    have h' := (mem_next hi).1 h
    refine ⟨h', ?_⟩
    unfold tieOf
    by_cases c : v < i
    · rw [if_pos c]; exact .inl rfl
    · rw [if_neg c]; exact .inr rfl
  · rintro ⟨h, c⟩
    have ht := hi t h
    rcases c with c | c
    · exact ⟨t.f1, (mem_next hi).2 (by rw [← c, tieOf_inr ht]; exact h), by rw [← c, tieOf_inr ht]⟩
    · have : tieOf v t.f0 = t := by rw [tieOf_comm, ← c, tieOf_inr ht]
      exact ⟨t.f0, (mem_next hi).2 (by rw [this]; exact h), this⟩
end Go.Proofs.Ytddadihobjinhaa.G
