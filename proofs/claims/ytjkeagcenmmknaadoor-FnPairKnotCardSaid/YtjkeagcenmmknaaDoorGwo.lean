/- Ties without a knot; pairs there. -/
import Derived.Test.YtjkeagcenmmknaaDoorGhalf
namespace Go.Proofs.YtjkeagcenmmknaaDoor.G
set_option linter.unusedSimpArgs false
set_option linter.unusedVariables false
open Go.RowKit Go.Proofs.YtjkeagcenmmknaaDoorW.PrintWords
/-- ties without a knot -/
def wo (E : List Tie) (v : Int) : List Tie := E.filter fun t => !decide (t.f0 = v ∨ t.f1 = v)
theorem mem_wo {E : List Tie} {v : Int} {t : Tie} : t ∈ wo E v ↔ t ∈ E ∧ t.f0 ≠ v ∧ t.f1 ≠ v := by
  unfold wo
  rw [List.mem_filter]
  simp
theorem ok_wo {n : Int} {E : List Tie} (h : ok n E) (v : Int) : ok n (wo E v) := ok_filter _ h
theorem wo_len (E : List Tie) (v : Int) : (wo E v).length ≤ E.length := List.length_filter_le _ _
/-- What is taken may as well not be there. -/
theorem most_wo {E : List Tie} (hne : ∀ t ∈ E, t.f0 ≠ t.f1) (v : Int) (vs : List Int) : most (wo E v) vs = most E (v :: vs) := by
  obtain ⟨L, _, f, e⟩ := most_ex (wo E v) vs (fun t ht => hne t (mem_wo.1 ht).1)
  refine most_eq hne ⟨L, ⟨fun t ht => (mem_wo.1 (f.1 t ht)).1, f.2.1, fun x hx o => ?_⟩, e⟩ (fun M fM => ?_)
  · rcases List.mem_cons.1 o with rfl | o
    · obtain ⟨t, ht, q⟩ := mem_verts.1 hx
      have := mem_wo.1 (f.1 t ht)
      rcases q with q | q
      · exact this.2.1 q.symm
      · exact this.2.2 q.symm
    · exact f.2.2 x hx o
  · refine most_le _ _ _ ⟨fun t ht => mem_wo.2 ⟨fM.1 t ht, fun q => ?_, fun q => ?_⟩, fM.2.1, fun x hx o => fM.2.2 x hx (by simp [o])⟩
    · exact fM.2.2 _ (mem_verts.2 ⟨t, ht, Or.inl rfl⟩) (by simp [q])
    · exact fM.2.2 _ (mem_verts.2 ⟨t, ht, Or.inr rfl⟩) (by simp [q])
theorem most_perm {E : List Tie} (hne : ∀ t ∈ E, t.f0 ≠ t.f1) {vs ws : List Int} (h : ∀ v, v ∈ vs ↔ v ∈ ws) : most E vs = most E ws := by
  obtain ⟨L, _, f, e⟩ := most_ex E vs hne
  exact most_eq hne ⟨L, ⟨f.1, f.2.1, fun v hv o => f.2.2 v hv ((h v).2 o)⟩, e⟩ (fun M fM => most_le _ _ _ ⟨fM.1, fM.2.1, fun v hv o => fM.2.2 v hv ((h v).1 o)⟩)
/-- One knot more that is taken costs one pair at most. -/
theorem most_take {E : List Tie} (hne : ∀ t ∈ E, t.f0 ≠ t.f1) (v : Int) (vs : List Int) : most E (v :: vs) ≤ most E vs ∧ most E vs ≤ most E (v :: vs) + 1 := by
  constructor
  · obtain ⟨L, _, f, e⟩ := most_ex E (v :: vs) hne
    have := most_le E vs L ⟨f.1, f.2.1, fun x hx o => f.2.2 x hx (by simp [o])⟩
    omega
  · obtain ⟨L, _, f, e⟩ := most_ex E vs hne
    by_cases c : v ∈ verts L
    · obtain ⟨t, ht, o⟩ := mem_verts.1 c
      obtain ⟨_, _, _, el, es, nd, nv⟩ := fits_erase f ht
      have := most_le E (v :: vs) (L.erase t) ⟨fun x hx => f.1 x (es x hx).1, nd, fun x hx q => by
        rcases List.mem_cons.1 q with rfl | q
        · rcases o with o | o
          · exact (nv x hx).2.1 o
          · exact (nv x hx).2.2 o
        · exact (nv x hx).1 q⟩
      omega
    · have := most_le E (v :: vs) L ⟨f.1, f.2.1, fun x hx q => by
        rcases List.mem_cons.1 q with rfl | q
        · exact c hx
        · exact f.2.2 x hx q⟩
      omega
end Go.Proofs.YtjkeagcenmmknaaDoor.G
