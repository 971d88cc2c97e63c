/- The ends of ties; which knots are among some. -/
import Derived.Test.YtjkeagcenmmknaaDoorGb
namespace Go.Proofs.YtjkeagcenmmknaaDoor.G
set_option linter.unusedSimpArgs false
set_option linter.unusedVariables false
open Go.RowKit Go.Proofs.YtjkeagcenmmknaaDoorW.PrintWords
/-- all ends of ties -/
def verts (L : List Tie) : List Int := L.flatMap fun t => [t.f0, t.f1]
/-- of each knot: is it among some -/
def flags (n : Int) (vs : List Int) : List Bool := (List.range n.toNat).map fun (i : Nat) => decide ((i : Int) ∈ vs)
theorem flags_len (n : Int) (vs : List Int) (h : 0 ≤ n) : ((flags n vs).length : Int) = n := by simp [flags]; omega
theorem flags_rd {n : Int} {vs : List Int} {v : Int} (h0 : 0 ≤ v) (h1 : v < n) : rdOf false (flags n vs) v = decide (v ∈ vs) := by
  unfold rdOf flags
  rw [List.getD_eq_getElem?_getD, List.getElem?_map, List.getElem?_range (by omega)]
  simp [Int.toNat_of_nonneg h0]
theorem flags_set {n : Int} {vs : List Int} {v : Int} (h0 : 0 ≤ v) (h1 : v < n) : (flags n vs).set v.toNat true = flags n (v :: vs) := by
  apply List.ext_getElem?
  intro i
  unfold flags
  rw [List.getElem?_set]
  by_cases hi : v.toNat = i
  · subst hi
    rw [if_pos rfl, if_pos (by simp; omega), List.getElem?_map, List.getElem?_range (by omega)]
    simp [Int.toNat_of_nonneg h0]
  · rw [if_neg hi]
    rw [List.getElem?_map, List.getElem?_map]
    by_cases h : i < n.toNat
    · rw [List.getElem?_range h]
      have : ¬ (i : Int) = v := by omega
      simp [this]
    · rw [List.getElem?_eq_none (by simp; omega)]
      rfl
theorem flags_none (n : Int) : List.replicate n.toNat false = flags n [] := by
  apply List.ext_getElem?
  intro i
  unfold flags
  by_cases h : i < n.toNat
  · rw [List.getElem?_map, List.getElem?_range h]; simp [h]
  · rw [List.getElem?_eq_none (by simp; omega), List.getElem?_eq_none (by simp; omega)]
end Go.Proofs.YtjkeagcenmmknaaDoor.G
