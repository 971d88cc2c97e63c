/- Ways: rows of different knots, each tied to the next; their order; all of them; the first one. Plain facts. -/
import Derived.Test.YtddadihobjinhaaGc
namespace Go.Proofs.Ytddadihobjinhaa.G
set_option linter.unusedSimpArgs false
set_option linter.unusedVariables false
/-! ### the order -/
def lexlt : List Int → List Int → Prop
  | [], [] => False
  | [], _ :: _ => True
  | _ :: _, [] => False
  | x :: a, y :: b => x < y ∨ x = y ∧ lexlt a b
instance lexlt_dec : (a b : List Int) → Decidable (lexlt a b)
  | [], [] => isFalse (fun h => h)
  | [], _ :: _ => isTrue trivial
  | _ :: _, [] => isFalse (fun h => h)
  | x :: a, y :: b => by
    have := lexlt_dec a b
    unfold lexlt
    infer_instance
theorem lexlt_irrefl : ∀ a : List Int, ¬ lexlt a a
  | [], h => h
  | x :: a, h => by
    rcases h with h | h
    · omega
    · exact lexlt_irrefl a h.2
theorem lexlt_trans : ∀ {a b c : List Int}, lexlt a b → lexlt b c → lexlt a c
  | [], [], _, h, _ => h.elim
  | [], _ :: _, [], _, k => k.elim
  | [], _ :: _, _ :: _, _, _ => trivial
  | _ :: _, [], _, h, _ => h.elim
  | _ :: _, _ :: _, [], _, k => k.elim
  | x :: a, y :: b, z :: c, h, k => by
    rcases h with h | ⟨rfl, h⟩
    · rcases k with k | ⟨rfl, k⟩
      · exact .inl (by omega)
      · exact .inl h
    · rcases k with k | ⟨rfl, k⟩
      · exact .inl k
      · exact .inr ⟨rfl, lexlt_trans h k⟩
theorem lexlt_tri : ∀ a b : List Int, lexlt a b ∨ a = b ∨ lexlt b a
  | [], [] => .inr (.inl rfl)
  | [], _ :: _ => .inl trivial
  | _ :: _, [] => .inr (.inr trivial)
  | x :: a, y :: b => by
    rcases Int.lt_trichotomy x y with h | h | h
    · exact .inl (.inl h)
    · subst h
      rcases lexlt_tri a b with h | h | h
      · exact .inl (.inr ⟨rfl, h⟩)
      · exact .inr (.inl (by rw [h]))
      · exact .inr (.inr (.inr ⟨rfl, h⟩))
    · exact .inr (.inr (.inl h))
/-- shorter ones first, then by their knots -/
def wlt (a b : List Int) : Prop := a.length < b.length ∨ a.length = b.length ∧ lexlt a b
instance (a b : List Int) : Decidable (wlt a b) := by unfold wlt; infer_instance
theorem wlt_irrefl (a : List Int) : ¬ wlt a a := by
  rintro (h | h)
  · omega
  · exact lexlt_irrefl a h.2
theorem wlt_trans {a b c : List Int} (h : wlt a b) (k : wlt b c) : wlt a c := by
  rcases h with h | ⟨h, h2⟩
  · rcases k with k | ⟨k, _⟩
    · exact .inl (by omega)
    · exact .inl (by omega)
  · rcases k with k | ⟨k, k2⟩
    · exact .inl (by omega)
    · exact .inr ⟨by omega, lexlt_trans h2 k2⟩
theorem wlt_tri (a b : List Int) : wlt a b ∨ a = b ∨ wlt b a := by
  rcases Nat.lt_trichotomy a.length b.length with h | h | h
  · exact .inl (.inl h)
  · rcases lexlt_tri a b with k | k | k
    · exact .inl (.inr ⟨h, k⟩)
    · exact .inr (.inl k)
    · exact .inr (.inr (.inr ⟨h.symm, k⟩))
  · exact .inr (.inr (.inl h))
/-- rows sorted -/
def sortW (l : List (List Int)) : List (List Int) := l.mergeSort fun a b => !decide (wlt b a)
theorem sortW_perm (l : List (List Int)) : (sortW l).Perm l := List.mergeSort_perm l _
theorem sortW_sorted (l : List (List Int)) : (sortW l).Pairwise fun a b => ¬ wlt b a := by
  have := List.pairwise_mergeSort (le := fun a b => !decide (wlt b a)) (fun a b c h1 h2 => by
    simp only [Bool.not_eq_true', decide_eq_false_iff_not] at *
    intro h
    rcases wlt_tri a b with x | x | x
    · exact h2 (wlt_trans h x)
    · subst x; exact h2 h
    · exact h1 x) (fun a b => by
    rcases wlt_tri a b with x | x | x
    · have : ¬ wlt b a := fun k => wlt_irrefl _ (wlt_trans x k)
      simp [this]
    · subst x; simp [wlt_irrefl]
    · have : ¬ wlt a b := fun k => wlt_irrefl _ (wlt_trans x k)
      simp [this]) l
  exact this.imp (fun {a b} h => by simpa using h)
theorem sortedW_unique : ∀ {l m : List (List Int)}, l.Perm m → (l.Pairwise fun a b => ¬ wlt b a) → (m.Pairwise fun a b => ¬ wlt b a) → l = m
  | [], m, p, _, _ => (List.nil_perm.1 p).symm
  | a :: r, [], p, _, _ => absurd p.length_eq (by simp)
  | a :: r, b :: s, p, h, k => by
    rw [List.pairwise_cons] at h k
    have e : a = b := by
      rcases wlt_tri a b with x | x | x
      · have : a ∈ b :: s := p.subset (by simp)
        rcases List.mem_cons.1 this with q | q
        · exact q
        · exact absurd x (k.1 a q)
      · exact x
      · have : b ∈ a :: r := p.symm.subset (by simp)
        rcases List.mem_cons.1 this with q | q
        · exact q.symm
        · exact absurd x (h.1 b q)
    subst e
    rw [sortedW_unique (List.Perm.cons_inv p) h.2 k.2]
theorem sortW_head {l : List (List Int)} {p : List Int} (hp : p ∈ l) (hm : ∀ q ∈ l, ¬ wlt q p) : ∃ r, sortW l = p :: r := by
  have h1 := sortW_sorted l
  have h2 := (sortW_perm l).mem_iff (a := p)
  cases e : sortW l with
  | nil => rw [e] at h2; exact absurd (h2.2 hp) (by simp)
  | cons h r =>
    rw [e] at h1 h2
    have hh : h ∈ l := (sortW_perm l).mem_iff.1 (by rw [e]; simp)
    rcases wlt_tri p h with x | x | x
    · rcases List.mem_cons.1 (h2.2 hp) with q | q
      · rw [q]; exact ⟨r, rfl⟩
      · exact absurd x ((List.pairwise_cons.1 h1).1 p q)
    · rw [x]; exact ⟨r, rfl⟩
    · exact absurd x (hm h hh)
theorem sortW_first {l r : List (List Int)} {p : List Int} (h : sortW l = p :: r) : p ∈ l ∧ ∀ q ∈ l, ¬ wlt q p := by
  have h1 := sortW_sorted l
  rw [h] at h1
  refine ⟨(sortW_perm l).mem_iff.1 (by rw [h]; simp), fun q hq => ?_⟩
  have : q ∈ p :: r := by rw [← h]; exact (sortW_perm l).mem_iff.2 hq
  rcases List.mem_cons.1 this with e | e
  · rw [e]; exact wlt_irrefl p
  · exact (List.pairwise_cons.1 h1).1 q e
/-! ### ways -/
structure isWay (E : List Tie) (a b : Int) (p : List Int) : Prop where
  head : p.head? = some a
  last : p.getLast? = some b
  ties : ∀ t ∈ ties p, t ∈ E
  nodup : p.Nodup
theorem ties_app : ∀ (p : List Int) (v w : Int) (s : List Int), ties (p ++ v :: w :: s) = ties (p ++ [v]) ++ tieOf v w :: ties (w :: s)
  | [], v, w, s => by simp [ties]
  | [a], v, w, s => by simp [ties]
  | a :: b :: p, v, w, s => by
    have := ties_app (b :: p) v w s
    simp only [List.cons_append, ties] at this ⊢
    rw [this]
/-- all ways that go on, in the order in which they are found -/
def waysG (n : Int) (E : List Tie) (tgt : Int) : Nat → List Int → Int → List (List Int)
  | 0, _, _ => []
  | d + 1, pre, v => if v = tgt then [pre ++ [v]] else ((next n E v).filter fun k => !decide (k ∈ pre ++ [v])).flatMap fun k => waysG n E tgt d (pre ++ [v]) k
theorem mem_waysG {n tgt : Int} {E : List Tie} (hE : ∀ t ∈ E, inr n t) : ∀ (d : Nat) (pre : List Int) (v : Int) (p : List Int), p ∈ waysG n E tgt d pre v → (pre ++ [v]).Nodup →
    ∃ ext, p = pre ++ v :: ext ∧ (∀ t ∈ ties (v :: ext), t ∈ E) ∧ (v :: ext).getLast? = some tgt ∧ p.Nodup
  | 0, pre, v, p, h, _ => by simp [waysG] at h
  | d + 1, pre, v, p, h, hn => by
    unfold waysG at h
    by_cases c : v = tgt
    · rw [if_pos c, List.mem_singleton] at h
      exact ⟨[], h, by simp [ties], by simp [c], h ▸ hn⟩
    · rw [if_neg c, List.mem_flatMap] at h
      obtain ⟨k, hk, h⟩ := h
      rw [List.mem_filter, mem_next hE] at hk
      have hk2 : k ∉ pre ++ [v] := by simpa using hk.2
      have hn2 : ((pre ++ [v]) ++ [k]).Nodup := by
        rw [List.nodup_append]
        exact ⟨hn, by simp, fun a ha b hb e => by rw [List.mem_singleton] at hb; subst hb; subst e; exact hk2 ha⟩
      obtain ⟨ext, e, ht, hl, hd⟩ := mem_waysG hE d (pre ++ [v]) k p h hn2
      refine ⟨k :: ext, by rw [e]; simp, fun t ht2 => ?_, ?_, hd⟩
      · simp only [ties, List.mem_cons] at ht2
        rcases ht2 with rfl | ht2
        · exact hk.1
        · exact ht t ht2
      · rw [List.getLast?_cons_cons]; exact hl
theorem waysG_mem {n tgt : Int} {E : List Tie} (hE : ∀ t ∈ E, inr n t) : ∀ (d : Nat) (pre : List Int) (v : Int) (ext : List Int), (∀ t ∈ ties (v :: ext), t ∈ E) → (v :: ext).getLast? = some tgt → (pre ++ v :: ext).Nodup → ext.length < d →
    pre ++ v :: ext ∈ waysG n E tgt d pre v
  | 0, _, _, _, _, _, _, h => absurd h (Nat.not_lt_zero _)
  | d + 1, pre, v, [], _, hl, _, _ => by
    have : v = tgt := by simpa using hl
    unfold waysG
    rw [if_pos this]; simp
  | d + 1, pre, v, k :: ext, ht, hl, hn, hd => by
    have c : v ≠ tgt := by
      intro c
      rw [List.getLast?_cons_cons] at hl
      have h1 := List.mem_of_getLast? hl
      rw [List.nodup_append] at hn
      exact (List.nodup_cons.1 hn.2.1).1 (c ▸ h1)
    unfold waysG
    rw [if_neg c, List.mem_flatMap]
    have e : pre ++ v :: k :: ext = (pre ++ [v]) ++ k :: ext := by simp
    refine ⟨k, ?_, ?_⟩
    · rw [List.mem_filter, mem_next hE]
      refine ⟨ht _ (by simp [ties]), ?_⟩
      rw [e, List.nodup_append] at hn
      have : k ∉ pre ++ [v] := fun h => hn.2.2 k h k (by simp) rfl
      simpa using this
    · rw [e] at hn ⊢
      exact waysG_mem hE d (pre ++ [v]) k ext (fun t h => ht t (by simp [ties, h])) (by rw [List.getLast?_cons_cons] at hl; exact hl) hn (by simp at hd; omega)
theorem flat_le {α β : Type} (f : α → List β) (M : Nat) : ∀ (l : List α), (∀ x ∈ l, (f x).length ≤ M) → (l.flatMap f).length ≤ l.length * M
  | [], _ => by simp
  | a :: l, h => by
    have := flat_le f M l (fun x hx => h x (List.mem_cons_of_mem _ hx))
    have := h a (by simp)
    rw [List.flatMap_cons, List.length_append, List.length_cons, Nat.succ_mul]
    omega
theorem waysG_len {n tgt : Int} {E : List Tie} (h8 : n ≤ 8) : ∀ (d : Nat) (pre : List Int) (v : Int), (waysG n E tgt d pre v).length ≤ 8 ^ d
  | 0, _, _ => by simp [waysG]
  | d + 1, pre, v => by
    unfold waysG
    have p1 : 0 < 8 ^ d := Nat.pow_pos (by omega)
    by_cases c : v = tgt
    · rw [if_pos c, Nat.pow_succ]; simp; omega
    · rw [if_neg c]
      have l1 : ((next n E v).filter fun k => !decide (k ∈ pre ++ [v])).length ≤ 8 := by
        refine Nat.le_trans (List.length_filter_le _ _) ?_
        unfold next
        refine Nat.le_trans (List.length_filter_le _ _) ?_
        rw [knots_len]; omega
      refine Nat.le_trans (flat_le _ (8 ^ d) _ (fun k _ => waysG_len h8 d (pre ++ [v]) k)) ?_
      rw [Nat.pow_succ, Nat.mul_comm (8 ^ d)]
      exact Nat.mul_le_mul_right _ l1
/-- all ways between two knots, in order -/
def allG (n : Int) (E : List Tie) (a b : Int) : List (List Int) := sortW (waysG n E b 9 [] a)
theorem way_knots {n a b : Int} {E : List Tie} (hE : ∀ t ∈ E, inr n t) (ha : 0 ≤ a ∧ a < n) {p : List Int} (h : isWay E a b p) : ∀ v ∈ p, 0 ≤ v ∧ v < n := by
  cases p with
  | nil => simp
  | cons x r =>
    have : x = a := by have := h.head; simpa using this
    subst this
    exact ties_knots hE r x ha h.ties
theorem way_len {n a b : Int} {E : List Tie} (hE : ∀ t ∈ E, inr n t) (ha : 0 ≤ a ∧ a < n) {p : List Int} (h : isWay E a b p) : (p.length : Int) ≤ n := by
  have := nodup_len_le h.nodup (fun x hx => mem_knots.2 (way_knots hE ha h x hx))
  rw [knots_len] at this
  omega
theorem mem_waysA {n a b : Int} {E : List Tie} (h8 : n ≤ 8) (hE : ∀ t ∈ E, inr n t) (ha : 0 ≤ a ∧ a < n) {p : List Int} : p ∈ waysG n E b 9 [] a ↔ isWay E a b p := by
  constructor
  · intro h
    obtain ⟨ext, e, ht, hl, hn⟩ := mem_waysG hE 9 [] a p h (by simp)
    rw [List.nil_append] at e
    subst e
    exact ⟨rfl, hl, ht, hn⟩
  · intro h
    have hl := way_len hE ha h
    cases p with
    | nil => have := h.head; simp at this
    | cons x r =>
      have : x = a := by have := h.head; simpa using this
      subst this
      exact waysG_mem hE 9 [] x r h.ties h.last h.nodup (by simp at hl; omega)
theorem mem_allG {n a b : Int} {E : List Tie} (h8 : n ≤ 8) (hE : ∀ t ∈ E, inr n t) (ha : 0 ≤ a ∧ a < n) {p : List Int} : p ∈ allG n E a b ↔ isWay E a b p := by
  unfold allG
  rw [(sortW_perm _).mem_iff, mem_waysA h8 hE ha]
theorem allG_first {n a b : Int} {E : List Tie} (h8 : n ≤ 8) (hE : ∀ t ∈ E, inr n t) (ha : 0 ≤ a ∧ a < n) {p : List Int} (hp : isWay E a b p) (hm : ∀ q, isWay E a b q → ¬ wlt q p) : ∃ r, allG n E a b = p :: r :=
  sortW_head ((mem_waysA h8 hE ha).2 hp) (fun q hq => hm q ((mem_waysA h8 hE ha).1 hq))
theorem allG_conn {n a b : Int} {E : List Tie} {p : List Int} (h : isWay E a b p) : Conn E a b := by
  obtain ⟨h1, h2, h3, _⟩ := h
  have go : ∀ (p : List Int) (a : Int), (a :: p).getLast? = some b → (∀ t ∈ ties (a :: p), t ∈ E) → Conn E a b := by
    intro p
    induction p with
    | nil =>
      intro a h _
      have : a = b := by simpa using h
      rw [this]; exact .refl _
    | cons x p ih =>
      intro a h ht
      rw [List.getLast?_cons_cons] at h
      exact (Conn.one (ht _ (by simp [ties]))).trans (ih x h (fun t q => ht t (by simp [ties, q])))
  cases p with
  | nil => simp at h1
  | cons x r =>
    have : x = a := by simpa using h1
    subst this
    exact go r x h2 h3
/-! ### how many ties lead to a knot at least -/
structure Far (n : Int) (E : List Tie) (b : Int) (f : Int → Int) : Prop where
  zero : f b = 0
  only : ∀ v, 0 ≤ v → v < n → f v = 0 → v = b
  down : ∀ v, 0 ≤ v → v < n → 0 < f v → ∃ w, tieOf v w ∈ E ∧ f w = f v - 1
  near : ∀ v w, tieOf v w ∈ E → 0 ≤ f v → 0 ≤ f w ∧ f w ≤ f v + 1
  lo : ∀ v, 0 ≤ v → v < n → -1 ≤ f v
/-- step by step to the least knot that is nearer -/
def down (n : Int) (E : List Tie) (f : Int → Int) : Nat → Int → List Int
  | 0, v => [v]
  | d + 1, v => v :: down n E f d (((next n E v).find? fun w => decide (f w = d)).getD 0)
theorem next_sorted (n v : Int) (E : List Tie) : (next n E v).Pairwise (· < ·) := by
  unfold next knots
  refine List.Pairwise.sublist List.filter_sublist ?_
  rw [List.pairwise_map]
  exact List.pairwise_lt_range.imp (fun {a b} h => by omega)
theorem Far.step {n b : Int} {E : List Tie} {f : Int → Int} (F : Far n E b f) (hE : ∀ t ∈ E, inr n t) {d : Nat} {v : Int} (hv : 0 ≤ v ∧ v < n) (hf : f v = (d + 1 : Nat)) :
    ∃ x, (next n E v).find? (fun w => decide (f w = d)) = some x ∧ tieOf v x ∈ E ∧ f x = d ∧ (0 ≤ x ∧ x < n) ∧ ∀ w, tieOf v w ∈ E → f w = d → x ≤ w := by
  obtain ⟨w, h1, h2⟩ := F.down v hv.1 hv.2 (by omega)
  have hw : w ∈ next n E v := (mem_next hE).2 h1
  cases e : (next n E v).find? (fun w => decide (f w = d)) with
  | none =>
    rw [List.find?_eq_none] at e
    have := e w hw
    simp at this
    omega
  | some x =>
    have hx := List.mem_of_find?_eq_some e
    have hx2 := List.find?_some e
    simp only [decide_eq_true_eq] at hx2
    have ht := (mem_next hE).1 hx
    refine ⟨x, rfl, ht, hx2, (tieOf_ends (hE _ ht)).2.1, fun w h1 h2 => ?_⟩
    obtain ⟨_, ls, rs, e1, e2⟩ := List.find?_eq_some_iff_append.1 e
    have hw : w ∈ next n E v := (mem_next hE).2 h1
    rw [e1, List.mem_append] at hw
    rcases hw with q | q
    · have := e2 w q
      simp [h2] at this
    · rcases List.mem_cons.1 q with q | q
      · omega
      · have hs := next_sorted n v E
        rw [e1, List.pairwise_append] at hs
        have := (List.pairwise_cons.1 hs.2.1).1 w q
        omega
theorem down_way {n b : Int} {E : List Tie} {f : Int → Int} (F : Far n E b f) (hE : ∀ t ∈ E, inr n t) : ∀ (d : Nat) (v : Int), 0 ≤ v ∧ v < n → f v = (d : Int) →
    ∃ r, down n E f d v = v :: r ∧ r.length = d ∧ (v :: r).getLast? = some b ∧ (∀ t ∈ ties (v :: r), t ∈ E) ∧ (∀ x ∈ r, f x < d) ∧ (v :: r).Nodup
  | 0, v, hv, hf => ⟨[], rfl, rfl, by rw [F.only v hv.1 hv.2 hf]; rfl, by simp [ties], by simp, by simp⟩
  | d + 1, v, hv, hf => by
    obtain ⟨x, e, ht, hx, hr, _⟩ := F.step hE hv hf
    obtain ⟨r, e1, e2, e3, e4, e5, e6⟩ := down_way F hE d x hr hx
    refine ⟨x :: r, ?_, by simp [e2], ?_, ?_, ?_, ?_⟩
    · unfold down
      rw [e]
      simp only [Option.getD_some, e1]
    · rw [List.getLast?_cons_cons]; exact e3
    · intro t h
      simp only [ties, List.mem_cons] at h
      rcases h with rfl | h
      · exact ht
      · exact e4 t h
    · intro y hy
      rcases List.mem_cons.1 hy with rfl | hy
      · omega
      · have := e5 y hy; omega
    · rw [List.nodup_cons]
      refine ⟨fun h => ?_, e6⟩
      rcases List.mem_cons.1 h with q | q
      · rw [q] at hf; omega
      · have := e5 v q; omega
theorem Far.walk {n b : Int} {E : List Tie} {f : Int → Int} (F : Far n E b f) : ∀ (r : List Int) (v : Int), (v :: r).getLast? = some b → (∀ t ∈ ties (v :: r), t ∈ E) → 0 ≤ f v ∧ f v ≤ (r.length : Int)
  | [], v, h, _ => by
    have : v = b := by simpa using h
    rw [this, F.zero]; simp
  | w :: r, v, h, ht => by
    rw [List.getLast?_cons_cons] at h
    have := F.walk r w h (fun t q => ht t (by simp [ties, q]))
    have := F.near w v (by rw [tieOf_comm]; exact ht _ (by simp [ties])) (by omega)
    simp only [List.length_cons]
    omega
theorem down_least {n b : Int} {E : List Tie} {f : Int → Int} (F : Far n E b f) (hE : ∀ t ∈ E, inr n t) : ∀ (d : Nat) (v : Int) (q : List Int), 0 ≤ v ∧ v < n → f v = (d : Int) → (v :: q).getLast? = some b → (∀ t ∈ ties (v :: q), t ∈ E) → q.length ≤ d →
    q.length = d ∧ ¬ lexlt (v :: q) (down n E f d v)
  | 0, v, [], _, _, _, _, _ => ⟨rfl, by simp [down, lexlt]⟩
  | 0, v, _ :: _, _, _, _, _, h => by simp at h
  | d + 1, v, [], hv, hf, h, _, _ => by
    have : v = b := by simpa using h
    rw [this, F.zero] at hf; omega
  | d + 1, v, w :: q, hv, hf, h, ht, hl => by
    obtain ⟨x, e, htx, hx, hr, hmin⟩ := F.step hE hv hf
    rw [List.getLast?_cons_cons] at h
    have hw := F.walk q w h (fun t k => ht t (by simp [ties, k]))
    have htw : tieOf v w ∈ E := ht _ (by simp [ties])
    have h2 := F.near w v (by rw [tieOf_comm]; exact htw) (by omega)
    have hfw : f w = (d : Int) := by simp only [List.length_cons] at hl; omega
    obtain ⟨a, b2⟩ := down_least F hE d w q (tieOf_ends (hE _ htw)).2.1 hfw h (fun t k => ht t (by simp [ties, k])) (by simp only [List.length_cons] at hl; omega)
    refine ⟨by simp [a], ?_⟩
    unfold down
    rw [e]
    simp only [Option.getD_some]
    intro k
    have hm := hmin w htw hfw
    obtain ⟨r, e1, _⟩ := down_way F hE d x hr hx
    rcases k with k | ⟨_, k⟩
    · omega
    · by_cases c : w = x
      · subst c; exact b2 k
      · rw [e1] at k
        rcases k with k | k
        · omega
        · exact c k.1
/-- the first way, if there is one -/
def firstWay (n : Int) (E : List Tie) (f : Int → Int) (a : Int) : List Int := down n E f (f a).toNat a
theorem Far.first {n a b : Int} {E : List Tie} {f : Int → Int} (F : Far n E b f) (hE : ∀ t ∈ E, inr n t) (ha : 0 ≤ a ∧ a < n) (h : 0 ≤ f a) : isWay E a b (firstWay n E f a) ∧ ∀ q, isWay E a b q → ¬ wlt q (firstWay n E f a) := by
  obtain ⟨r, e1, e2, e3, e4, e5, e6⟩ := down_way F hE (f a).toNat a ha (by omega)
  unfold firstWay
  refine ⟨⟨by rw [e1]; rfl, by rw [e1]; exact e3, by rw [e1]; exact e4, by rw [e1]; exact e6⟩, fun q hq k => ?_⟩
  cases q with
  | nil => have := hq.head; simp at this
  | cons x q =>
    have : x = a := by have := hq.head; simpa using this
    subst this
    have hl : q.length ≤ (f x).toNat := by
      rw [e1] at k
      rcases k with k | k
      · simp only [List.length_cons, e2] at k; omega
      · have := k.1; simp only [List.length_cons, e2] at this; omega
    obtain ⟨l1, l2⟩ := down_least F hE (f x).toNat x q ha (by omega) hq.last hq.ties hl
    rcases k with k | k
    · rw [e1] at k; simp only [List.length_cons, e2] at k; omega
    · exact l2 k.2
theorem Far.conn {n a b : Int} {E : List Tie} {f : Int → Int} (F : Far n E b f) (hE : ∀ t ∈ E, inr n t) (ha : 0 ≤ a ∧ a < n) : 0 ≤ f a ↔ Conn E a b := by
  constructor
  · intro h; exact allG_conn (n := n) (F.first hE ha h).1
  · intro h
    refine h.symm.closed (fun x => 0 ≤ f x) (by rw [F.zero]; omega) (fun x y hx ht => (F.near x y ht hx).1)
/-- There is a function that says how far. -/
theorem far_all {n a b : Int} {E : List Tie} {f : Int → Int} (F : Far n E b f) (h8 : n ≤ 8) (hE : ∀ t ∈ E, inr n t) (ha : 0 ≤ a ∧ a < n) (h : 0 ≤ f a) : ∃ r, allG n E a b = firstWay n E f a :: r :=
  allG_first h8 hE ha (F.first hE ha h).1 (F.first hE ha h).2
theorem far_none {n a b : Int} {E : List Tie} {f : Int → Int} (F : Far n E b f) (h8 : n ≤ 8) (hE : ∀ t ∈ E, inr n t) (ha : 0 ≤ a ∧ a < n) (h : ¬ 0 ≤ f a) : allG n E a b = [] := by
  rw [List.eq_nil_iff_forall_not_mem]
  intro p hp
  exact h ((F.conn hE ha).2 (allG_conn (n := n) ((mem_allG h8 hE ha).1 hp)))
end Go.Proofs.Ytddadihobjinhaa.G
