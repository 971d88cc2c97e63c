/- How an argument that is a slice of whole numbers reads: as a Lean list. -/
import Derived.Test.YtjkeagcenmmknaaDoorV
import Derived.Deep.Slices
import Derived.ProofKit
namespace Go.Proofs.YtjkeagcenmmknaaDoor.P
open Go.RowKit Go.Proofs.YtjkeagcenmmknaaDoorW.PrintWords Go.ChangeShapes Go.WideShapes Go.Deep

theorem read_ints {H : Type} {enc : TypeId × Value → H} {Pr : Program} {t e : TypeId} {k : IntKind} (ht : Pr.underlying t = some (.slice e)) (he : Pr.underlying e = some (.int k)) (hc : Pr.cellsOf e = 1) {w : World} {base : Nat} {spare : Nat → Bool} {held : Bool} {fuel : Nat} {cs : List Value} {x : DataW H × List MemPlace}
    (h : DataW.trod enc Pr w base spare held fuel t cs = some x) :
    ∃ (A : Option Addr) (c : Nat) (l : List Int), cs = [.slice A l.length c] ∧ l.length ≤ c ∧ Kd.C (Kd.int k) w A l.length l ∧ ∀ n ∈ l, (Lit.int k n).wf = true := by
  rcases open_slice1 ht hc h with ⟨rfl, _⟩ | ⟨a, len, cap, m, n, V, D, Pl, rfl, hb, hl, hm, hmm, hx, hi⟩
  · exact ⟨none, 0, [], rfl, Nat.le_refl _, ⟨rfl, by simp, fun h => by simp at h⟩, fun t ht => by simp at ht⟩
  · have hlm : len ≤ m := by rw [hmm]; split <;> omega
    have key : ∀ i, i < len → ∃ z : Int, w.cell? (a.add i) = some (.int k z) ∧ (Lit.int k z).wf = true := by
      intro i hil
      obtain ⟨h0, r0⟩ := hi i (by omega)
      obtain ⟨n0, e0, _, w0⟩ := DataW.trod_int he r0
      simp only [List.cons.injEq, and_true] at e0
      exact ⟨n0, by rw [h0, e0], w0⟩
    obtain ⟨f, hf⟩ := choose_lt key
    refine ⟨some a, cap, (List.range len).map f, by simp, by simpa using hl, ⟨by simp, ?_, fun _ => ⟨a, rfl, fun j p hj => ?_⟩⟩, fun t ht => ?_⟩
    · unfold maxLen at hm; simp; omega
    · obtain ⟨hj1, hj2⟩ := List.getElem?_eq_some_iff.1 hj
      simp at hj1 hj2
      subst hj2
      refine ⟨[.int k (f j)], rfl, rfl, fun i u hu => ?_⟩
      match i, hu with
      | 0, hu =>
        simp at hu; subst hu
        have : j * (Kd.int k).sz + 0 = j := Nat.mul_one j
        rw [this]
        exact (hf j hj1).1
    · simp at ht
      obtain ⟨i, hil, rfl⟩ := ht
      exact (hf i hil).2
end Go.Proofs.YtjkeagcenmmknaaDoor.P
