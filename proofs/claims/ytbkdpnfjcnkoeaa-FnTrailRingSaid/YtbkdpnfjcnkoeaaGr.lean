/- A trail turned about, and its tail: plain facts. -/
import Derived.Test.YtbkdpnfjcnkoeaaGt
namespace Go.Proofs.Ytbkdpnfjcnkoeaa.G
set_option linter.unusedSimpArgs false
set_option linter.unusedVariables false
theorem ties_snoc : ∀ (xs : List Int) (y a : Int), ties (xs ++ [y, a]) = ties (xs ++ [y]) ++ [tieOf y a]
  | [], y, a => rfl
  | [x], y, a => rfl
  | x :: z :: r, y, a => by
    have := ties_snoc (z :: r) y a
    show tieOf x z :: ties (z :: r ++ [y, a]) = tieOf x z :: ties (z :: r ++ [y]) ++ [tieOf y a]
    rw [this]; rfl
theorem ties_reverse : ∀ r : List Int, ties r.reverse = (ties r).reverse
  | [] => rfl
  | [_] => rfl
  | a :: b :: r => by
    have h := ties_reverse (b :: r)
    have e : (a :: b :: r).reverse = r.reverse ++ [b, a] := by simp
    have e2 : (b :: r).reverse = r.reverse ++ [b] := by simp
    rw [e, ties_snoc, ← e2, h, tieOf_comm b a]
    show _ = (tieOf a b :: ties (b :: r)).reverse
    rw [List.reverse_cons]
theorem trailOk_reverse {n : Int} {E : List Tie} {row : List Int} : trailOk n E row.reverse ↔ trailOk n E row := by
  unfold trailOk
  rw [cuts_iff, cuts_iff, ties_reverse, List.length_reverse, (List.reverse_perm (ties row)).nodup_iff]
  simp only [List.mem_reverse]
theorem trailOk_tail {n : Int} {E : List Tie} {a b : Int} {r : List Int} (h : trailOk n E (a :: b :: r)) : tieOf a b ∈ E ∧ trailOk n (cut E (tieOf a b)) (b :: r) := by
  obtain ⟨h1, h2, h3, h4, h5⟩ := h
  have hl := cut_len (asc_nodup h1.2.2.2) (tieOf a b)
  rw [if_pos h4] at hl
  simp only [List.length_cons] at h2
  exact ⟨h4, ok_cut _ h1, by rw [List.length_cons]; omega, fun v hv => h3 v (List.mem_cons_of_mem _ hv), h5⟩
end Go.Proofs.Ytbkdpnfjcnkoeaa.G
