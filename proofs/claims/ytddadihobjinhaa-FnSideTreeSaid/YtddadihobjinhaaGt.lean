/- Ties taken one by one out of a net: plain facts. -/
import Derived.Test.YtddadihobjinhaaBhs
namespace Go.Proofs.Ytddadihobjinhaa.G
set_option linter.unusedSimpArgs false
set_option linter.unusedVariables false
/-- without a tie -/
def cut (X : List Tie) (t : Tie) : List Tie := X.filter fun s => !decide (s = t)
theorem mem_cut {X : List Tie} {s t : Tie} : s ∈ cut X t ↔ s ∈ X ∧ s ≠ t := by
  unfold cut
  rw [List.mem_filter]
  simp
theorem ok_cut {n : Int} {X : List Tie} (t : Tie) (h : ok n X) : ok n (cut X t) := ok_filter _ h
theorem cut_none {X : List Tie} {t : Tie} (h : t ∉ X) : cut X t = X := by
  unfold cut
  rw [List.filter_eq_self]
  intro s hs
  have : s ≠ t := fun e => h (e ▸ hs)
  simp [this]
theorem cut_len {X : List Tie} (hX : X.Nodup) (t : Tie) : (cut X t).length + (if t ∈ X then 1 else 0) = X.length := by
  induction X with
  | nil => simp [cut]
  | cons a r ih =>
    obtain ⟨h1, h2⟩ := List.nodup_cons.1 hX
    have ih := ih h2
    by_cases e : a = t
    · subst e
      have : cut (a :: r) a = cut r a := by simp [cut]
      rw [this, cut_none h1]
      simp
    · have e1 : cut (a :: r) t = a :: cut r t := by simp [cut, e]
      rw [e1]
      have e2 : (t ∈ a :: r) = (t ∈ r) := by simp [Ne.symm e]
      simp only [e2, List.length_cons]
      omega
theorem cut_nodup {X : List Tie} (hX : X.Nodup) (t : Tie) : (cut X t).Nodup := hX.sublist List.filter_sublist
/-- the ties between knots that follow each other -/
def ties : List Int → List Tie
  | a :: b :: r => tieOf a b :: ties (b :: r)
  | _ => []
/-- each in turn is there still -/
def cuts : List Tie → List Tie → Prop
  | _, [] => True
  | X, t :: r => t ∈ X ∧ cuts (cut X t) r
instance cuts_dec : (X T : List Tie) → Decidable (cuts X T)
  | _, [] => isTrue trivial
  | X, t :: r => by
    have := cuts_dec (cut X t) r
    unfold cuts
    infer_instance
/-- what is left -/
def left (X : List Tie) : List Tie → List Tie
  | [] => X
  | t :: r => left (cut X t) r
theorem mem_left {T : List Tie} : ∀ {X : List Tie} {s : Tie}, s ∈ left X T ↔ s ∈ X ∧ s ∉ T := by
  induction T with
  | nil => intro X s; simp [left]
  | cons t r ih =>
    intro X s
    unfold left
    rw [ih, mem_cut]
    simp only [List.mem_cons, not_or]
    exact ⟨fun ⟨⟨a, b⟩, c⟩ => ⟨a, b, c⟩, fun ⟨a, b, c⟩ => ⟨⟨a, b⟩, c⟩⟩
theorem cuts_iff {T : List Tie} : ∀ {X : List Tie}, cuts X T ↔ (∀ t ∈ T, t ∈ X) ∧ T.Nodup := by
  induction T with
  | nil => intro X; simp [cuts]
  | cons t r ih =>
    intro X
    unfold cuts
    rw [ih, List.nodup_cons]
    constructor
    · rintro ⟨h1, h2, h3⟩
      refine ⟨fun s hs => ?_, fun ht => ?_, h3⟩
      · rcases List.mem_cons.1 hs with rfl | hs
        · exact h1
        · exact (mem_cut.1 (h2 s hs)).1
      · exact (mem_cut.1 (h2 t ht)).2 rfl
    · rintro ⟨h1, h2, h3⟩
      refine ⟨h1 t (List.mem_cons_self), fun s hs => mem_cut.2 ⟨h1 s (List.mem_cons_of_mem _ hs), fun e => h2 (e ▸ hs)⟩, h3⟩
theorem left_len {T : List Tie} : ∀ {X : List Tie}, X.Nodup → (left X T).length + T.length ≥ X.length ∧ ((left X T).length + T.length = X.length ↔ cuts X T) := by
  induction T with
  | nil => intro X hX; simp [left, cuts]
  | cons t r ih =>
    intro X hX
    have h := cut_len hX t
    obtain ⟨a, b⟩ := ih (cut_nodup hX t)
    unfold left cuts
    rw [List.length_cons]
    by_cases c : t ∈ X
    · rw [if_pos c] at h
      refine ⟨by omega, ?_⟩
      rw [← b]
      constructor
      · intro e; exact ⟨c, by omega⟩
      · rintro ⟨_, e⟩; omega
    · rw [if_neg c] at h
      refine ⟨by omega, ?_⟩
      constructor
      · intro e; omega
      · rintro ⟨e, _⟩; exact absurd e c
theorem left_nil {X T : List Tie} (hX : X.Nodup) (hl : T.length = X.length) : left X T = [] ↔ cuts X T := by
  rw [← (left_len hX).2, ← List.length_eq_zero_iff]
  omega
theorem ties_len : ∀ (r : List Int), (ties r).length = r.length - 1
  | [] => rfl
  | [_] => rfl
  | a :: b :: r => by
    have := ties_len (b :: r)
    simp only [ties, List.length_cons] at *
    omega
/-- a trail: over each tie once -/
def trailOk (n : Int) (E : List Tie) (row : List Int) : Prop := ok n E ∧ row.length = E.length + 1 ∧ (∀ v ∈ row, 0 ≤ v ∧ v < n) ∧ cuts E (ties row)
instance (n : Int) (E : List Tie) (row : List Int) : Decidable (trailOk n E row) := by unfold trailOk; infer_instance
theorem tieOf_ends {n a b : Int} (h : inr n (tieOf a b)) : (0 ≤ a ∧ a < n) ∧ (0 ≤ b ∧ b < n) ∧ a ≠ b := by
  unfold tieOf inr at h
  by_cases c : a < b
  · rw [if_pos c] at h; simp only at h; omega
  · rw [if_neg c] at h; simp only at h; omega
theorem ties_knots {n : Int} {E : List Tie} (hE : ∀ t ∈ E, inr n t) : ∀ (r : List Int) (a : Int), 0 ≤ a ∧ a < n → (∀ t ∈ ties (a :: r), t ∈ E) → ∀ v ∈ a :: r, 0 ≤ v ∧ v < n
  | [], a, ha, _ => by simpa using ha
  | b :: r, a, ha, h => by
    intro v hv
    have ht : tieOf a b ∈ E := h _ (by simp [ties])
    have hb := (tieOf_ends (hE _ ht)).2.1
    rcases List.mem_cons.1 hv with rfl | hv
    · exact ha
    · exact ties_knots hE r b hb (fun t ht => h t (by simp [ties, ht])) v hv
end Go.Proofs.Ytddadihobjinhaa.G
