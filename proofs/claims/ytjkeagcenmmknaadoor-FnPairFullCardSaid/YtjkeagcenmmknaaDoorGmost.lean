/- How many ties without a common knot at most; and that the sets of knots, one behind the other, come to the same. -/
import Derived.Test.YtjkeagcenmmknaaDoorGv
namespace Go.Proofs.YtjkeagcenmmknaaDoor.G
set_option linter.unusedSimpArgs false
set_option linter.unusedVariables false
open Go.RowKit Go.Proofs.YtjkeagcenmmknaaDoorW.PrintWords
/-- of these ties, none with a knot that is taken, how many at most have no knot in common -/
def most : List Tie → List Int → Nat
  | [], _ => 0
  | t :: r, vs => if t.f0 ∈ vs ∨ t.f1 ∈ vs then most r vs else max (most r vs) (1 + most r (t.f1 :: t.f0 :: vs))
/-- ties out of these without a common knot, none with a knot that is taken -/
def fits (E : List Tie) (vs : List Int) (L : List Tie) : Prop := (∀ t ∈ L, t ∈ E) ∧ (verts L).Nodup ∧ ∀ v ∈ verts L, v ∉ vs
theorem verts_cons (t : Tie) (L : List Tie) : verts (t :: L) = t.f0 :: t.f1 :: verts L := rfl
theorem mem_verts {L : List Tie} {v : Int} : v ∈ verts L ↔ ∃ t ∈ L, v = t.f0 ∨ v = t.f1 := by
  unfold verts
  simp only [List.mem_flatMap, List.mem_cons, List.not_mem_nil, or_false]
theorem verts_perm {L M : List Tie} (h : L.Perm M) : (verts L).Perm (verts M) := h.flatMap_right _
/-- a tie taken out -/
theorem fits_erase {E : List Tie} {vs : List Int} {L : List Tie} {t : Tie} (h : fits E vs L) (ht : t ∈ L) :
    t.f0 ∉ vs ∧ t.f1 ∉ vs ∧ t.f0 ≠ t.f1 ∧ L.length = (L.erase t).length + 1 ∧ (∀ s ∈ L.erase t, s ∈ L ∧ s ≠ t) ∧ (verts (L.erase t)).Nodup ∧ ∀ v ∈ verts (L.erase t), v ∉ vs ∧ v ≠ t.f0 ∧ v ≠ t.f1 := by
  have p := List.perm_cons_erase ht
  have q := verts_perm p
  rw [verts_cons] at q
  have nd := q.nodup_iff.1 h.2.1
  rw [List.nodup_cons, List.nodup_cons] at nd
  obtain ⟨n1, n2, n3⟩ := nd
  refine ⟨h.2.2 _ (q.mem_iff.2 (by simp)), h.2.2 _ (q.mem_iff.2 (by simp)), fun e => n1 (by rw [e]; simp), by have := p.length_eq; simpa using this, fun s hs => ⟨List.mem_of_mem_erase hs, fun e => ?_⟩, n3, fun v hv => ⟨h.2.2 _ (q.mem_iff.2 (by simp [hv])), fun e => ?_, fun e => ?_⟩⟩
  · subst e
    exact n2 (mem_verts.2 ⟨s, hs, Or.inr rfl⟩)
  · subst e; exact n1 (by simp [hv])
  · subst e; exact n2 hv
theorem most_le : ∀ (E : List Tie) (vs : List Int) (L : List Tie), fits E vs L → L.length ≤ most E vs
  | [], vs, L, h => by
    cases L with
    | nil => simp
    | cons t r => exact absurd (h.1 t (by simp)) (by simp)
  | t :: r, vs, L, h => by
    unfold most
    by_cases ht : t ∈ L
    · obtain ⟨a, b, c, d, e, f, g⟩ := fits_erase h ht
      rw [if_neg (by intro o; rcases o with o | o; exact a o; exact b o)]
      have := most_le r (t.f1 :: t.f0 :: vs) (L.erase t) ⟨fun s hs => by
        have := h.1 s (e s hs).1
        rcases List.mem_cons.1 this with q | q
        · exact absurd q (e s hs).2
        · exact q, f, fun v hv => by
        have := g v hv
        simp only [List.mem_cons, not_or]
        exact ⟨this.2.2, this.2.1, this.1⟩⟩
      omega
    · have := most_le r vs L ⟨fun s hs => by
        rcases List.mem_cons.1 (h.1 s hs) with q | q
        · subst q; exact absurd hs ht
        · exact q, h.2⟩
      split <;> omega
theorem most_ex : ∀ (E : List Tie) (vs : List Int), (∀ t ∈ E, t.f0 ≠ t.f1) → ∃ L, L.Sublist E ∧ fits E vs L ∧ L.length = most E vs
  | [], vs, _ => ⟨[], List.Sublist.refl _, ⟨by simp, by simp [verts], by simp [verts]⟩, rfl⟩
  | t :: r, vs, hne => by
    unfold most
    have hr := fun s hs => hne s (List.mem_cons_of_mem _ hs)
    have lift : ∀ L, L.Sublist r → fits r vs L → L.Sublist (t :: r) ∧ fits (t :: r) vs L := fun L s f => ⟨s.cons _, fun x hx => List.mem_cons_of_mem _ (f.1 x hx), f.2⟩
    obtain ⟨L, s, f, e⟩ := most_ex r vs hr
    split
    · exact ⟨L, (lift L s f).1, (lift L s f).2, e⟩
    · rename_i hn
      obtain ⟨L2, s2, f2, e2⟩ := most_ex r (t.f1 :: t.f0 :: vs) hr
      by_cases c : most r vs ≤ 1 + most r (t.f1 :: t.f0 :: vs)
      · refine ⟨t :: L2, s2.cons_cons _, ⟨fun x hx => ?_, ?_, ?_⟩, by simp; omega⟩
        · rcases List.mem_cons.1 hx with rfl | hx
          · simp
          · exact List.mem_cons_of_mem _ (f2.1 x hx)
        · rw [verts_cons, List.nodup_cons, List.nodup_cons]
          refine ⟨fun hm => ?_, fun hm => (f2.2.2 _ hm) (by simp), f2.2.1⟩
          rcases List.mem_cons.1 hm with q | q
          · exact hne t (by simp) q
          · exact (f2.2.2 _ q) (by simp)
        · intro v hv
          rw [verts_cons] at hv
          rcases List.mem_cons.1 hv with rfl | hv
          · exact fun o => hn (Or.inl o)
          · rcases List.mem_cons.1 hv with rfl | hv
            · exact fun o => hn (Or.inr o)
            · exact fun o => f2.2.2 v hv (by simp [o])
      · exact ⟨L, (lift L s f).1, (lift L s f).2, by omega⟩
theorem most_eq {E : List Tie} {vs : List Int} {k : Nat} (hne : ∀ t ∈ E, t.f0 ≠ t.f1) (h1 : ∃ L, fits E vs L ∧ L.length = k) (h2 : ∀ L, fits E vs L → L.length ≤ k) : k = most E vs := by
  obtain ⟨L, f, e⟩ := h1
  obtain ⟨L2, _, f2, e2⟩ := most_ex E vs hne
  have := most_le E vs L f
  have := h2 L2 f2
  omega
theorem most_len : ∀ (E : List Tie) (vs : List Int), most E vs ≤ E.length
  | [], _ => Nat.le_refl _
  | t :: r, vs => by
    unfold most
    have := most_len r vs
    have := most_len r (t.f1 :: t.f0 :: vs)
    simp only [List.length_cons]
    split <;> omega
theorem fits_mono {E F : List Tie} {vs ws : List Int} {L : List Tie} (h : fits E vs L) (hE : ∀ t ∈ L, t ∈ E → t ∈ F) (hv : ∀ v ∈ verts L, v ∈ ws → v ∈ vs) : fits F ws L :=
  ⟨fun t ht => hE t ht (h.1 t ht), h.2.1, fun v hm o => h.2.2 v hm (hv v hm o)⟩
end Go.Proofs.YtjkeagcenmmknaaDoor.G
