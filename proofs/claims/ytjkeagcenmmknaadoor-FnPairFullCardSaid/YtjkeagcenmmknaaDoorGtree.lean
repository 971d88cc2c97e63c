/- The first ties that close no ring: plain facts. -/
import Derived.Test.YtjkeagcenmmknaaDoorGc
namespace Go.Proofs.YtjkeagcenmmknaaDoor.G
set_option linter.unusedSimpArgs false
set_option linter.unusedVariables false
open Classical in
/-- tie by tie: those that lead to what cannot be come to yet -/
noncomputable def treeOn : List Tie → List Tie → List Tie
  | X, [] => X
  | X, t :: r => if Conn X t.f0 t.f1 then treeOn X r else treeOn (X ++ [t]) r
theorem treeOn_mem : ∀ (r X : List Tie) (t : Tie), t ∈ treeOn X r → t ∈ X ∨ t ∈ r
  | [], X, t, h => .inl h
  | s :: r, X, t, h => by
    unfold treeOn at h
    split at h
    · exact (treeOn_mem r X t h).imp_right (List.mem_cons_of_mem _)
    · rcases treeOn_mem r (X ++ [s]) t h with h | h
      · rcases List.mem_append.1 h with h | h
        · exact .inl h
        · rw [List.mem_singleton] at h
          exact .inr (h ▸ List.mem_cons_self)
      · exact .inr (List.mem_cons_of_mem _ h)
theorem treeOn_sub : ∀ (r X Y : List Tie), X.Sublist Y → (treeOn X r).Sublist (Y ++ r)
  | [], X, Y, h => by simpa [treeOn] using h
  | s :: r, X, Y, h => by
    have e : Y ++ s :: r = (Y ++ [s]) ++ r := by simp
    unfold treeOn
    rw [e]
    split
    · exact treeOn_sub r X (Y ++ [s]) (h.trans (List.sublist_append_left _ _))
    · exact treeOn_sub r (X ++ [s]) (Y ++ [s]) (h.append (List.Sublist.refl _))
theorem treeOn_keeps : ∀ (r X : List Tie) (t : Tie), t ∈ X → t ∈ treeOn X r
  | [], X, t, h => h
  | s :: r, X, t, h => by
    unfold treeOn
    split
    · exact treeOn_keeps r X t h
    · exact treeOn_keeps r (X ++ [s]) t (List.mem_append_left _ h)
/-- a tree of a net -/
noncomputable def tree (E : List Tie) : List Tie := treeOn [] E
theorem tree_sub (E : List Tie) : (tree E).Sublist E := by
  have := treeOn_sub E [] [] (List.Sublist.refl _)
  simpa [tree] using this
theorem treeOn_conn {n : Int} : ∀ (r X : List Tie), (∀ t ∈ r, inr n t) → ∀ t ∈ r, Conn (treeOn X r) t.f0 t.f1
  | [], X, _, t, h => by simp at h
  | s :: r, X, hr, t, h => by
    unfold treeOn
    split
    · rename_i c
      rcases List.mem_cons.1 h with rfl | h
      · exact c.mono (treeOn_keeps r X)
      · exact treeOn_conn r X (fun x hx => hr x (List.mem_cons_of_mem _ hx)) t h
    · rcases List.mem_cons.1 h with rfl | h
      · exact Conn.tie (treeOn_keeps r _ _ (by simp)) (hr t List.mem_cons_self).2.1
      · exact treeOn_conn r (X ++ [s]) (fun x hx => hr x (List.mem_cons_of_mem _ hx)) t h
theorem conn_of {E F : List Tie} (h : ∀ t ∈ E, Conn F t.f0 t.f1) (hE : ∀ t ∈ E, t.f0 < t.f1) {a b : Int} (k : Conn E a b) : Conn F a b := by
  induction k with
  | refl => exact .refl _
  | @step x y hx ht ih =>
    refine ih.trans ?_
    have q := h _ ht
    unfold tieOf at q ht
    by_cases c : x < y
    · simpa [c] using q
    · simp only [if_neg c] at q
      exact q.symm
theorem tree_conn {n : Int} {E : List Tie} (hE : ∀ t ∈ E, inr n t) (a b : Int) : Conn (tree E) a b ↔ Conn E a b :=
  ⟨fun h => h.mono (fun t ht => (tree_sub E).subset ht), fun h => conn_of (treeOn_conn E [] hE) (fun t ht => (hE t ht).2.1) h⟩
end Go.Proofs.YtjkeagcenmmknaaDoor.G
