/- FnPairFull, the plain part. -/
import Derived.Test.YtjkeagcenmmknaaDoorBdpok
import Derived.Test.YtjkeagcenmmknaaDoorBmost
import Derived.Test.YtjkeagcenmmknaaDoorGhalf
import Derived.Test.YtjkeagcenmmknaaDoorF40
namespace Go.Proofs.YtjkeagcenmmknaaDoor.P
set_option linter.unusedSimpArgs false
set_option linter.unusedVariables false
open Go.RowKit Go.Proofs.YtjkeagcenmmknaaDoorW.PrintWords Go.Proofs.YtjkeagcenmmknaaDoor.G
theorem flags_congr {n : Int} {vs ws : List Int} (h : ∀ v, v ∈ vs ↔ v ∈ ws) : flags n vs = flags n ws := by
  unfold flags
  refine List.map_congr_left (fun i _ => ?_)
  exact decide_eq_decide.2 (h _)
theorem fits_nodup : ∀ {L : List Tie}, (verts L).Nodup → L.Nodup
  | [], _ => List.nodup_nil
  | t :: r, h => by
    rw [verts_cons, List.nodup_cons, List.nodup_cons] at h
    rw [List.nodup_cons]
    exact ⟨fun q => h.1 (by simp [mem_verts.2 ⟨t, q, Or.inl rfl⟩]), fits_nodup h.2.2⟩
/-- Pairs to which none can be added are half as many at least. -/
theorem full_half {E L : List Tie} (hne : ∀ t ∈ E, t.f0 ≠ t.f1) (h : ∀ t ∈ E, t.f0 ∈ verts L ∨ t.f1 ∈ verts L) : most E [] ≤ 2 * L.length := by
  obtain ⟨M, _, f, e⟩ := most_ex E [] hne
  have inj : (M.map fun t => if t.f0 ∈ verts L then t.f0 else t.f1).Nodup := by
    refine nodup_map _ (fits_nodup f.2.1) (fun x hx y hy q => ?_)
    apply Classical.byContradiction
    intro ne
    obtain ⟨_, _, _, _, _, _, nv⟩ := fits_erase f hx
    have hy' : y ∈ M.erase x := (List.mem_erase_of_ne (fun e => ne e.symm)).2 hy
    have a := nv y.f0 (mem_verts.2 ⟨y, hy', Or.inl rfl⟩)
    have b := nv y.f1 (mem_verts.2 ⟨y, hy', Or.inr rfl⟩)
    split at q <;> split at q
    · exact a.2.1 q.symm
    · exact b.2.1 q.symm
    · exact a.2.2 q.symm
    · exact b.2.2 q.symm
  have le := nodup_len_le inj (m := verts L) (fun v hv => by
    obtain ⟨t, ht, rfl⟩ := List.mem_map.1 hv
    have := h t (f.1 t ht)
    split
    · assumption
    · rename_i q
      rcases this with o | o
      · exact absurd o q
      · exact o)
  rw [List.length_map, verts_len] at le
  omega
theorem full_l1 (n : Int) (E L : List S51) (h : ok n E) (hL : pairOk n E L) (hLl : L.length ≤ 1000) : ∀ (suf p : List S51), E = p ++ suf → (∀ t ∈ p, t.f0 ∈ verts L ∨ t.f1 ∈ verts L) →
    Ev (fun k => laws_FnPairFull.l1 k L (flags n (verts L)) (p.length : Int) n E) true := by
  intro suf
  have hl := ok_len h
  have hEb : (E.length : Int) < big := by unfold big; omega
  have hs : sizeOf n E = (most E [] : Int) := by unfold sizeOf; rw [if_pos h]
  have n0 := h.1
  induction suf with
  | nil =>
    intro p he hp
    have c : ¬ (p.length : Int) < (E.length : Int) := by rw [he]; exact nlt_end p
    refine Ev.step (fun k => by simp only [laws_FnPairFull.l1, if_neg c] <;> exact rfl) ?_
    refine Ev.bind (sizeImpl n E hEb) ?_
    have w : wrap64 (2 * (L.length : Int)) = 2 * (L.length : Int) := w64 (by omega) (by omega)
    have := full_half (ok_ne h) (L := L) (fun t ht => hp t (by rw [he, List.append_nil] at ht; exact ht))
    exact Ev.val (by rw [w, hs, decide_eq_true (by omega)])
  | cons t suf ih =>
    intro p he hp
    have c : (p.length : Int) < (E.length : Int) := by rw [he]; exact lt_mid p t suf
    have rt : rd_T51 E (p.length : Int) = t := by rw [he]; exact rdI_mid p t suf
    have e1 : E = (p ++ [t]) ++ suf := by rw [he]; simp
    have w : wrap64 ((p.length : Int) + 1) = ((p ++ [t]).length : Int) := w_succ (by omega)
    have ht := h.2.2.1 t (by rw [he]; simp)
    unfold inr at ht
    have fl : ((flags n (verts L)).length : Int) = n := flags_len n _ n0
    have p0 : 0 ≤ t.f0 := ht.1
    have p1 : 0 ≤ t.f1 := by omega
    have f0 : t.f0 < ((flags n (verts L)).length : Int) := by omega
    have f1 : t.f1 < ((flags n (verts L)).length : Int) := by omega
    have r0 : rdOf false (flags n (verts L)) t.f0 = decide (t.f0 ∈ verts L) := flags_rd (by omega) (by omega)
    have r1 : rdOf false (flags n (verts L)) t.f1 = decide (t.f1 ∈ verts L) := flags_rd (by omega) (by omega)
    have more : t.f0 ∈ verts L ∨ t.f1 ∈ verts L → ∀ x ∈ p ++ [t], x.f0 ∈ verts L ∨ x.f1 ∈ verts L := fun o x hx => by
      rcases List.mem_append.1 hx with hx | hx
      · exact hp x hx
      · obtain rfl := List.mem_singleton.1 hx
        exact o
    by_cases a : t.f0 ∈ verts L
    · refine Ev.step (fun k => by simp only [laws_FnPairFull.l1, if_pos c, nn, if_true, rt, if_pos p0, if_pos f0, r0, decide_eq_true a, w] <;> exact rfl) ?_
      exact ih (p ++ [t]) e1 (more (Or.inl a))
    · by_cases b : t.f1 ∈ verts L
      · refine Ev.step (fun k => by simp only [laws_FnPairFull.l1, if_pos c, nn, if_true, rt, if_pos p0, if_pos f0, r0, decide_eq_false a, Bool.false_eq_true, if_false, if_pos p1, if_pos f1, r1, decide_eq_true b, w] <;> exact rfl) ?_
        exact ih (p ++ [t]) e1 (more (Or.inr b))
      · refine Ev.step (fun k => by simp only [laws_FnPairFull.l1, if_pos c, nn, if_true, rt, if_pos p0, if_pos f0, r0, decide_eq_false a, Bool.false_eq_true, if_false, if_pos p1, if_pos f1, r1, decide_eq_false b] <;> exact rfl) ?_
        refine Ev.bind (sizeImpl n E hEb) ?_
        have := most_le E [] (t :: L) ⟨fun x hx => by
          rcases List.mem_cons.1 hx with rfl | hx
          · rw [he]; simp
          · exact hL.2.1 x hx, by
          rw [verts_cons, List.nodup_cons, List.nodup_cons]
          refine ⟨fun q => ?_, b, hL.2.2.2⟩
          rcases List.mem_cons.1 q with q | q
          · omega
          · exact a q, by simp⟩
        simp only [List.length_cons] at this
        exact Ev.val (by rw [hs, decide_eq_true (by omega)])
theorem full_l0 (n : Int) (E L : List S51) (h : ok n E) (hL : pairOk n E L) (hLl : L.length ≤ 1000) : ∀ (suf p : List S51), L = p ++ suf →
    Ev (fun k => laws_FnPairFull.l0 k L (flags n (verts p)) (p.length : Int) n E) true := by
  intro suf
  have n0 := h.1
  induction suf with
  | nil =>
    intro p he
    have c : ¬ (p.length : Int) < (L.length : Int) := by rw [he]; exact nlt_end p
    rw [List.append_nil] at he
    subst he
    refine Ev.step (fun k => by simp only [laws_FnPairFull.l0, if_neg c] <;> exact rfl) ?_
    exact full_l1 n E L h hL hLl E [] rfl (by simp)
  | cons t suf ih =>
    intro p he
    have c : (p.length : Int) < (L.length : Int) := by rw [he]; exact lt_mid p t suf
    have rt : rd_T51 L (p.length : Int) = t := by rw [he]; exact rdI_mid p t suf
    have e1 : L = (p ++ [t]) ++ suf := by rw [he]; simp
    have w : wrap64 ((p.length : Int) + 1) = ((p ++ [t]).length : Int) := w_succ (by unfold big; omega)
    have ht := h.2.2.1 t (hL.2.1 t (by rw [he]; simp))
    unfold inr at ht
    have fl : ((flags n (verts p)).length : Int) = n := flags_len n _ n0
    have p0 : 0 ≤ t.f0 := ht.1
    have p1 : 0 ≤ t.f1 := by omega
    have f0 : t.f0 < ((flags n (verts p)).length : Int) := by omega
    have f1 : t.f1 < ((flags n (verts p)).length : Int) := by omega
    have mk : ((flags n (verts p)).set t.f0.toNat true).set t.f1.toNat true = flags n (verts (p ++ [t])) := by
      rw [flags_set (by omega) (by omega), flags_set (by omega) (by omega)]
      refine flags_congr (fun v => ?_)
      unfold verts
      rw [List.flatMap_append, List.mem_append]
      simp only [List.mem_cons, List.flatMap_cons, List.flatMap_nil, List.append_nil, List.not_mem_nil, or_false]
      constructor
      · rintro (a | a | a)
        · exact Or.inr (Or.inr a)
        · exact Or.inr (Or.inl a)
        · exact Or.inl a
      · rintro (a | a | a)
        · exact Or.inr (Or.inr a)
        · exact Or.inr (Or.inl a)
        · exact Or.inl a
    refine Ev.step (fun k => by simp only [laws_FnPairFull.l0, if_pos c, nn, if_true, rt, if_pos p0, if_pos f0, if_pos p1, if_pos f1, mk, w] <;> exact rfl) ?_
    exact ih (p ++ [t]) e1
theorem FnPairFull_pure (l : List Int) (_hl : l.length ≤ 9223372036854775807) (h : ∀ x ∈ l, 0 ≤ x ∧ x ≤ 255) : ∃ k, laws_FnPairFull.f k l = some true := by
  refine Ev.rounds ?_
  unfold laws_FnPairFull.f
  by_cases d : (l.length : Int) > 1048576
  · simp only [if_pos d]; exact Ev.val rfl
  simp only [if_neg d]
  obtain ⟨n, E, L, d1, hE, hL⟩ := drawPairOk_ev l h
  have hEb : (E.length : Int) < big := by unfold big; omega
  have s := pairSpec n E L hEb (by unfold big; omega)
  have i := pairImpl n E L hEb (by omega)
  have bb : (decide (pairOk n E L) != decide (pairOk n E L)) = false := by simp
  refine Ev.bind d1 (Ev.bind i (Ev.bind s ?_))
  simp only [bb, Bool.false_eq_true, if_false]
  by_cases c : pairOk n E L
  · rw [decide_eq_true c]
    have n0 := c.1.1
    have n8 := c.1.2.1
    have z : n.toNat ≤ 281474976710656 := by omega
    refine Ev.step (fun k => by simp only [laws_FnPairFull.j0, Bool.not_true, Bool.false_eq_true, if_false, if_pos n0, if_pos z, flags_none] <;> exact rfl) ?_
    exact full_l0 n E L c.1 c (by omega) L [] rfl
  · rw [decide_eq_false c]
    refine Ev.step (fun k => by simp only [laws_FnPairFull.j0, Bool.not_false, if_true] <;> exact rfl) ?_
    refine Ev.bind s ?_
    exact Ev.val (by rw [decide_eq_false c]; rfl)
end Go.Proofs.YtjkeagcenmmknaaDoor.P
