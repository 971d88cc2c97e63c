/- How an argument that is a slice of ties reads: as a Lean list. -/
import Derived.Test.YtjkeagcenmmknaaDoorF18
import Derived.Deep.SlicePairs
import Derived.Lib.SmallJoins
import Derived.ProofKit
namespace Go.Proofs.YtjkeagcenmmknaaDoor.P
open Go.RowKit Go.Proofs.YtjkeagcenmmknaaDoorW.PrintWords Go.ChangeShapes Go.WideShapes Go.Deep

theorem read_ties {H : Type} {enc : TypeId × Value → H} {w : World} {base : Nat} {spare : Nat → Bool} {held : Bool} {fuel : Nat} {cs : List Value} {x : DataW H × List MemPlace}
    (h : DataW.trod enc Tryd.prog w base spare held fuel 22 cs = some x) :
    ∃ (A : Option Addr) (c : Nat) (l : List S82), cs = [.slice A l.length c] ∧ l.length ≤ c ∧ Kd.C k82 w A l.length l ∧ ∀ t ∈ l, (Lit.int .i64 t.f0).wf = true ∧ (Lit.int .i64 t.f1).wf = true := by
  rcases open_slice_pairs Tryd.underlying22 Tryd.underlying82 (by kernel_rfl) rfl rfl (by kernel_rfl) (by kernel_rfl) h with ⟨rfl, _⟩ | ⟨a, len, cap, m, n, V0, V1, D0, D1, P0, P1, rfl, hb, hl, hm, hmm, hx, hi⟩
  · exact ⟨none, 0, [], rfl, Nat.le_refl _, ⟨rfl, by simp, fun h => by simp at h⟩, fun t ht => by simp at ht⟩
  · have hlm : len ≤ m := by rw [hmm]; split <;> omega
    have key : ∀ i, i < len → ∃ t : S82, w.cell? (a.add (i * 2)) = some (.int .i64 t.f0) ∧ w.cell? (a.add (i * 2 + 1)) = some (.int .i64 t.f1) ∧ (Lit.int .i64 t.f0).wf = true ∧ (Lit.int .i64 t.f1).wf = true := by
      intro i hil
      obtain ⟨h0, h1, r0, r1⟩ := hi i (by omega)
      obtain ⟨n0, e0, _, w0⟩ := DataW.trod_int Tryd.underlying3 r0
      obtain ⟨n1, e1, _, w1⟩ := DataW.trod_int Tryd.underlying3 r1
      simp only [List.cons.injEq, and_true] at e0 e1
      exact ⟨⟨n0, n1⟩, by rw [h0, e0], by rw [h1, e1], w0, w1⟩
    haveI : Inhabited S82 := ⟨z82⟩
    obtain ⟨f, hf⟩ := choose_lt key
    refine ⟨some a, cap, (List.range len).map f, by simp, by simpa using hl, ⟨by simp, ?_, fun _ => ⟨a, rfl, fun j p hj => ?_⟩⟩, fun t ht => ?_⟩
    · unfold maxLen at hm; simp; omega
    · obtain ⟨hj1, hj2⟩ := List.getElem?_eq_some_iff.1 hj
      simp at hj1 hj2
      obtain ⟨h0, h1, _, _⟩ := hf j hj1
      subst hj2
      refine ⟨[.int .i64 (f j).f0, .int .i64 (f j).f1], rfl, k82_mk w (f j), fun i u hu => ?_⟩
      match i, hu with
      | 0, hu => simp at hu; subst hu; exact h0
      | 1, hu => simp at hu; subst hu; exact h1
    · simp at ht
      obtain ⟨i, hil, rfl⟩ := ht
      exact (hf i hil).2.2
end Go.Proofs.YtjkeagcenmmknaaDoor.P
