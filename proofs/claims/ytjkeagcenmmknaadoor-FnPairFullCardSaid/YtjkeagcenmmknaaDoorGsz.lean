/- The table of all sets of knots holds for each set how many pairs at most there are within it. -/
import Derived.Test.YtjkeagcenmmknaaDoorGmost
import Derived.Test.YtjkeagcenmmknaaDoorSz
namespace Go.Proofs.YtjkeagcenmmknaaDoor.P
set_option linter.unusedSimpArgs false
set_option linter.unusedVariables false
open Go.RowKit Go.Proofs.YtjkeagcenmmknaaDoorW.PrintWords Go.Proofs.YtjkeagcenmmknaaDoor.G
/-- the knots that are not in a set -/
def outs (s : Nat) : List Int := ((List.range 8).filter fun v => !s.testBit v).map fun (v : Nat) => (v : Int)
theorem mem_outs {s : Nat} {v : Int} : v ∈ outs s ↔ ∃ n : Nat, n < 8 ∧ s.testBit n = false ∧ v = (n : Int) := by
  unfold outs
  simp only [List.mem_map, List.mem_filter, List.mem_range, Bool.not_eq_true', and_assoc]
  constructor
  · rintro ⟨a, h1, h2, rfl⟩; exact ⟨a, h1, h2, rfl⟩
  · rintro ⟨a, h1, h2, rfl⟩; exact ⟨a, h1, h2, rfl⟩
theorem out_iff {s : Nat} {v : Int} (h0 : 0 ≤ v) (h1 : v < 8) : v ∈ outs s ↔ s.testBit v.toNat = false := by
  rw [mem_outs]
  constructor
  · rintro ⟨n, a, b, rfl⟩; simpa using b
  · intro h; exact ⟨v.toNat, by omega, h, by omega⟩
theorem low_facts : ∀ s : Nat, s < 256 → s ≠ 0 → Lib.ctz 64 s < 8 ∧ s.testBit (Lib.ctz 64 s) = true ∧ (∀ v, v < 8 → (v < Lib.ctz 64 s → s.testBit v = false) ∧ (s &&& (s - 1)).testBit v = (s.testBit v && v != Lib.ctz 64 s)) ∧ s &&& (s - 1) < s := by decide +kernel
theorem xor_lt : ∀ s : Nat, s < 256 → ∀ t : Nat, t < 256 → s &&& t = t → t ≠ 0 → s ^^^ t < s := by decide +kernel
theorem two_bit {t : Tie} (h : 0 ≤ t.f0 ∧ t.f0 < t.f1 ∧ t.f1 < 8) (v : Nat) : (szTwo t).testBit v = (decide (v = t.f0.toNat) || decide (v = t.f1.toNat)) := by
  unfold szTwo
  rw [Nat.testBit_or, Nat.testBit_two_pow, Nat.testBit_two_pow]
  congr 1 <;> exact decide_eq_decide.2 ⟨fun e => e.symm, fun e => e.symm⟩
theorem two_ne {t : Tie} (h : 0 ≤ t.f0 ∧ t.f0 < t.f1 ∧ t.f1 < 8) : szTwo t ≠ 0 := by
  intro e
  have := two_bit h t.f0.toNat
  rw [e] at this
  simp at this
theorem two_in {s : Nat} {t : Tie} (h : 0 ≤ t.f0 ∧ t.f0 < t.f1 ∧ t.f1 < 8) : s &&& szTwo t = szTwo t ↔ s.testBit t.f0.toNat = true ∧ s.testBit t.f1.toNat = true := by
  constructor
  · intro e
    have a := congrArg (fun n => n.testBit t.f0.toNat) e
    have b := congrArg (fun n => n.testBit t.f1.toNat) e
    simp only [Nat.testBit_and, two_bit h] at a b
    simpa using And.intro a b
  · rintro ⟨a, b⟩
    apply Nat.eq_of_testBit_eq
    intro i
    rw [Nat.testBit_and, two_bit h]
    by_cases c : i = t.f0.toNat
    · subst c; simp [a]
    · by_cases d : i = t.f1.toNat
      · subst d; simp [b]
      · simp [c, d]
theorem xor_bit {s t : Nat} (h : s &&& t = t) (v : Nat) : (s ^^^ t).testBit v = (s.testBit v && !t.testBit v) := by
  rw [Nat.testBit_xor]
  have := congrArg (fun n => n.testBit v) h
  simp only [Nat.testBit_and] at this
  cases a : s.testBit v <;> cases b : t.testBit v <;> simp_all
/-- one set's round, told by numbers -/
def pickMax (s : Nat) (f : Nat → Int) (m : Int) (t : Tie) : Int := if t.f0 = (Lib.ctz 64 s : Int) ∧ s &&& szTwo t = szTwo t then szMax m (wrap64 (f (s ^^^ szTwo t) + 1)) else m
theorem rd_set_eq {T : List Int} {s : Nat} (x : Int) (h : s < T.length) : rd (T.set s x) (s : Int) = x := by
  unfold rd; simp [List.getD_eq_getElem?_getD, h]
theorem rd_set_ne {T : List Int} {s j : Nat} (x : Int) (h : j ≠ s) : rd (T.set s x) (j : Int) = rd T (j : Int) := by
  unfold rd
  simp only [Int.toNat_natCast, List.getD_eq_getElem?_getD]
  rw [List.getElem?_set_ne (fun e => h e.symm)]
theorem fold_table (s : Nat) (T : List Int) (hs : s < T.length) (hs2 : s < 256) : ∀ (l : List Tie) (m : Int), szGood l → l.foldl (szStep s) (T.set s m) = T.set s (l.foldl (pickMax s fun j => rd T (j : Int)) m)
  | [], m, _ => rfl
  | t :: r, m, h => by
    have ht := h t (by simp)
    rw [List.foldl_cons, List.foldl_cons]
    have e : szStep s (T.set s m) t = T.set s (pickMax s (fun j => rd T (j : Int)) m t) := by
      unfold szStep pickMax
      split
      · rename_i c
        have lt := xor_lt s hs2 (szTwo t) (szTwo_lt t ht) c.2 (two_ne ht)
        rw [rd_set_eq m hs, rd_set_ne m (by omega), List.set_set]
      · rfl
    rw [e]
    exact fold_table s T hs hs2 r _ (fun x hx => h x (List.mem_cons_of_mem _ hx))
theorem szMax_le {a b : Int} : a ≤ szMax a b ∧ b ≤ szMax a b := by unfold szMax; split <;> omega
theorem szMax_or (a b : Int) : szMax a b = a ∨ szMax a b = b := by unfold szMax; split <;> simp
theorem fold_ge (s : Nat) (f : Nat → Int) : ∀ (l : List Tie) (m : Int), m ≤ l.foldl (pickMax s f) m ∧ ∀ t ∈ l, t.f0 = (Lib.ctz 64 s : Int) → s &&& szTwo t = szTwo t → wrap64 (f (s ^^^ szTwo t) + 1) ≤ l.foldl (pickMax s f) m
  | [], m => ⟨Int.le_refl _, fun t ht => absurd ht (by simp)⟩
  | t :: r, m => by
    rw [List.foldl_cons]
    obtain ⟨a, b⟩ := fold_ge s f r (pickMax s f m t)
    have h1 : m ≤ pickMax s f m t := by unfold pickMax; split; exact szMax_le.1; exact Int.le_refl _
    refine ⟨by omega, fun x hx c d => ?_⟩
    rcases List.mem_cons.1 hx with rfl | hx
    · have : wrap64 (f (s ^^^ szTwo x) + 1) ≤ pickMax s f m x := by unfold pickMax; rw [if_pos ⟨c, d⟩]; exact szMax_le.2
      omega
    · exact b x hx c d
theorem fold_is (s : Nat) (f : Nat → Int) : ∀ (l : List Tie) (m : Int), l.foldl (pickMax s f) m = m ∨ ∃ t ∈ l, t.f0 = (Lib.ctz 64 s : Int) ∧ s &&& szTwo t = szTwo t ∧ l.foldl (pickMax s f) m = wrap64 (f (s ^^^ szTwo t) + 1)
  | [], m => Or.inl rfl
  | t :: r, m => by
    rw [List.foldl_cons]
    rcases fold_is s f r (pickMax s f m t) with e | ⟨x, hx, c, d, e⟩
    · rw [e]
      unfold pickMax
      split
      · rename_i c
        rcases szMax_or m (wrap64 (f (s ^^^ szTwo t) + 1)) with q | q
        · exact Or.inl q
        · exact Or.inr ⟨t, by simp, c.1, c.2, q⟩
      · exact Or.inl rfl
    · exact Or.inr ⟨x, List.mem_cons_of_mem _ hx, c, d, e⟩
/-- The step from smaller sets to one. -/
theorem set_step (l : List Tie) (hl : (l.length : Int) < big) (g : szGood l) (s : Nat) (h0 : s ≠ 0) (h1 : s < 256) (f : Nat → Int) (hf : ∀ j, j < s → f j = (most l (outs j) : Int)) :
    l.foldl (pickMax s f) (f (s &&& (s - 1))) = (most l (outs s) : Int) := by
  obtain ⟨lw8, lwin, lwf, lwlt⟩ := low_facts s h1 h0
  have hne : ∀ t ∈ l, t.f0 ≠ t.f1 := fun t ht => by have := g t ht; omega
  have val : ∀ t ∈ l, s &&& szTwo t = szTwo t → wrap64 (f (s ^^^ szTwo t) + 1) = ((most l (outs (s ^^^ szTwo t)) + 1 : Nat) : Int) := fun t ht c => by
    rw [hf _ (xor_lt s h1 _ (szTwo_lt t (g t ht)) c (two_ne (g t ht)))]
    have := most_len l (outs (s ^^^ szTwo t))
    rw [w64 (by omega) (by unfold big at hl; omega)]
    omega
  obtain ⟨ge1, ge2⟩ := fold_ge s f l (f (s &&& (s - 1)))
  -- a natural number it is
  obtain ⟨k, hk, kx⟩ : ∃ k : Nat, l.foldl (pickMax s f) (f (s &&& (s - 1))) = (k : Int) ∧ (k = most l (outs (s &&& (s - 1))) ∨ ∃ t ∈ l, t.f0 = (Lib.ctz 64 s : Int) ∧ s &&& szTwo t = szTwo t ∧ k = most l (outs (s ^^^ szTwo t)) + 1) := by
    rcases fold_is s f l (f (s &&& (s - 1))) with e | ⟨t, ht, c, d, e⟩
    · exact ⟨_, e.trans (hf _ lwlt), Or.inl rfl⟩
    · exact ⟨_, e.trans (val t ht d), Or.inr ⟨t, ht, c, d, rfl⟩⟩
  rw [hk]
  congr 1
  refine most_eq hne ?_ ?_
  · rcases kx with e | ⟨t, ht, c, d, e⟩
    · obtain ⟨L, _, fL, eL⟩ := most_ex l (outs (s &&& (s - 1))) hne
      refine ⟨L, ⟨fL.1, fL.2.1, fun v hv o => fL.2.2 v hv ?_⟩, by omega⟩
      obtain ⟨n, n8, nb, rfl⟩ := mem_outs.1 o
      exact mem_outs.2 ⟨n, n8, by rw [(lwf n n8).2, nb]; rfl, rfl⟩
    · obtain ⟨L, _, fL, eL⟩ := most_ex l (outs (s ^^^ szTwo t)) hne
      have gt := g t ht
      obtain ⟨b0, b1⟩ := (two_in gt).1 d
      have tin : ∀ v : Int, (v = t.f0 ∨ v = t.f1) → v ∈ outs (s ^^^ szTwo t) := fun v o => by
        rw [out_iff (by rcases o with e | e <;> omega) (by rcases o with e | e <;> omega), xor_bit d, two_bit gt]
        rcases o with rfl | rfl <;> simp
      refine ⟨t :: L, ⟨fun x hx => ?_, ?_, fun v hv o => ?_⟩, by simp; omega⟩
      · rcases List.mem_cons.1 hx with rfl | hx
        · exact ht
        · exact fL.1 x hx
      · rw [verts_cons, List.nodup_cons, List.nodup_cons]
        refine ⟨fun hm => ?_, fun hm => fL.2.2 _ hm (tin _ (Or.inr rfl)), fL.2.1⟩
        rcases List.mem_cons.1 hm with q | q
        · omega
        · exact fL.2.2 _ q (tin _ (Or.inl rfl))
      · rw [verts_cons] at hv
        rcases List.mem_cons.1 hv with rfl | hv
        · rw [out_iff (by omega) (by omega)] at o; rw [o] at b0; cases b0
        · rcases List.mem_cons.1 hv with rfl | hv
          · rw [out_iff (by omega) (by omega)] at o; rw [o] at b1; cases b1
          · refine fL.2.2 v hv ?_
            obtain ⟨n, n8, nb, rfl⟩ := mem_outs.1 o
            exact mem_outs.2 ⟨n, n8, by rw [xor_bit d, nb]; rfl, rfl⟩
  · intro L fL
    have inn : ∀ t ∈ L, s.testBit t.f0.toNat = true ∧ s.testBit t.f1.toNat = true := fun t ht => by
      have gt := g t (fL.1 t ht)
      have a := fL.2.2 t.f0 (mem_verts.2 ⟨t, ht, Or.inl rfl⟩)
      have b := fL.2.2 t.f1 (mem_verts.2 ⟨t, ht, Or.inr rfl⟩)
      rw [out_iff (by omega) (by omega)] at a b
      exact ⟨by simpa using a, by simpa using b⟩
    by_cases c : ((Lib.ctz 64 s : Nat) : Int) ∈ verts L
    · obtain ⟨t, ht, o⟩ := mem_verts.1 c
      have gt := g t (fL.1 t ht)
      obtain ⟨b0, b1⟩ := inn t ht
      have e0 : t.f0 = (Lib.ctz 64 s : Int) := by
        rcases o with o | o
        · exact o.symm
        · have := (lwf t.f0.toNat (by omega)).1 (by omega)
          rw [this] at b0; cases b0
      have d := (two_in gt).2 ⟨b0, b1⟩
      have := ge2 t (fL.1 t ht) e0 d
      rw [val t (fL.1 t ht) d, hk] at this
      obtain ⟨_, _, _, el, es, nd, nv⟩ := fits_erase fL ht
      have le := most_le l (outs (s ^^^ szTwo t)) (L.erase t) ⟨fun x hx => fL.1 x (es x hx).1, nd, fun v hv o2 => by
        obtain ⟨n, n8, nb, rfl⟩ := mem_outs.1 o2
        rw [xor_bit d, two_bit gt] at nb
        obtain ⟨q1, q2, q3⟩ := nv _ hv
        have : s.testBit n = true := by
          have := fun z => q1 (mem_outs.2 ⟨n, n8, z, rfl⟩)
          simpa using this
        rw [this] at nb
        simp at nb
        have := gt
        by_cases c1 : n = t.f0.toNat
        · exact q2 (by omega)
        · exact q3 (by have := nb c1; omega)⟩
      omega
    · have := most_le l (outs (s &&& (s - 1))) L ⟨fL.1, fL.2.1, fun v hv o => by
        obtain ⟨n, n8, nb, rfl⟩ := mem_outs.1 o
        rw [(lwf n n8).2] at nb
        have : s.testBit n = true := by
          have := fun z => fL.2.2 _ hv (mem_outs.2 ⟨n, n8, z, rfl⟩)
          simpa using this
        rw [this] at nb
        simp at nb
        subst nb
        exact c hv⟩
      rw [hk, hf _ lwlt] at ge1
      omega
theorem szT_is (l : List Tie) (hl : (l.length : Int) < big) (g : szGood l) : ∀ n, n < 256 → ∀ j, j ≤ n → rd (szT l n) (j : Int) = (most l (outs j) : Int)
  | 0, _, j, hj => by
    obtain rfl : j = 0 := by omega
    have z : rd (szT l 0) ((0 : Nat) : Int) = 0 := by
      show rd (List.replicate 256 0) 0 = 0
      unfold rd
      rw [List.getD_eq_getElem?_getD, List.getElem?_replicate]
      split <;> rfl
    rw [z]
    have : most l (outs 0) = 0 := by
      have hne : ∀ t ∈ l, t.f0 ≠ t.f1 := fun t ht => by have := g t ht; omega
      refine (most_eq hne ⟨[], ⟨by simp, by simp [verts], by simp [verts]⟩, rfl⟩ (fun L fL => ?_)).symm
      cases L with
      | nil => simp
      | cons t r =>
        have gt := g t (fL.1 t (by simp))
        exact absurd ((out_iff (s := 0) (v := t.f0) (by omega) (by omega)).2 (by simp)) (fL.2.2 _ (by rw [verts_cons]; simp))
    omega
  | n + 1, hn, j, hj => by
    have ih := szT_is l hl g n (by omega)
    show rd (szRound l (n + 1) (szT l n)) (j : Int) = _
    unfold szRound
    obtain ⟨_, _, _, lwlt⟩ := low_facts (n + 1) (by omega) (by omega)
    rw [fold_table (n + 1) (szT l n) (by rw [szT_len]; omega) (by omega) l _ g]
    by_cases e : j = n + 1
    · subst e
      rw [rd_set_eq _ (by rw [szT_len]; omega)]
      exact set_step l hl g (n + 1) (by omega) (by omega) (fun j => rd (szT l n) (j : Int)) (fun j hj => ih j (by omega))
    · rw [rd_set_ne _ e]
      exact ih j (by omega)
/-- What size answers. -/
theorem szOf_eq (l : List Tie) (hl : (l.length : Int) < big) (g : szGood l) : szOf l = some (most l [] : Int) := by
  unfold szOf
  rw [if_pos g]
  have := szT_is l hl g 255 (by omega) 255 (by omega)
  rw [show ((255 : Nat) : Int) = 255 from rfl] at this
  rw [this]
  rw [show outs 255 = [] from by kernel_rfl]
end Go.Proofs.YtjkeagcenmmknaaDoor.P
