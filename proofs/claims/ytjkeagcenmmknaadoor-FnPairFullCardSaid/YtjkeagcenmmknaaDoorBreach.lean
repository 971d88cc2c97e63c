/- The reference's walk over a net: the knots one is tied to, and those that can be come to. -/
import Derived.Test.YtjkeagcenmmknaaDoorBks
import Derived.Test.YtjkeagcenmmknaaDoorGc
import Derived.Test.YtjkeagcenmmknaaDoorF14
namespace Go.Proofs.YtjkeagcenmmknaaDoor.P
set_option linter.unusedSimpArgs false
set_option linter.unusedVariables false
open Go.RowKit Go.Proofs.YtjkeagcenmmknaaDoorW.PrintWords Go.Proofs.YtjkeagcenmmknaaDoor.G
theorem next_l0 (n v : Int) (E : List S51) (hE : (E.length : Int) < big) (h8 : n ≤ 8) : ∀ (d : Nat) (i : Int), 0 ≤ i → i + d = n →
    Ev (fun k => spec_l2Next.l0 k v ((knots i).filter fun j => decide (tieOf v j ∈ E)) i n E) (next n E v) := by
  intro d
  induction d with
  | zero =>
    intro i h0 hi
    have hi' : i = n := by omega
    subst hi'
    have c : ¬ i < i := by omega
    refine Ev.step (fun k => by simp only [spec_l2Next.l0, c, if_false] <;> exact rfl) ?_
    exact Ev.val rfl
  | succ d ih =>
    intro i h0 hi
    have c : i < n := by omega
    have w : wrap64 (i + 1) = i + 1 := w64 (by omega) (by omega)
    have hl : ((knots i).filter fun j => decide (tieOf v j ∈ E)).length < 17592186044416 := by
      have := List.length_filter_le (fun j => decide (tieOf v j ∈ E)) (knots i)
      rw [knots_len] at this
      omega
    refine Ev.step (fun k => by simp only [spec_l2Next.l0, c, if_true, w, hl] <;> exact rfl) ?_
    refine Ev.bind (l1Has_ev n v i E hE) ?_
    have e := ih (i + 1) (by omega) (by omega)
    rw [knots_succ h0, List.filter_append] at e
    by_cases d : tieOf v i ∈ E
    · simp only [d, decide_true, if_true]
      simpa [d] using e
    · simp only [d, decide_false, Bool.false_eq_true, if_false]
      simpa [d] using e
theorem next_ev (n v : Int) (E : List S51) (hE : ok n E) : Ev (fun k => spec_l2Next.f k n E v) (next n E v) := by
  unfold spec_l2Next.f
  have hb : (E.length : Int) < big := by have := ok_len hE; unfold big; omega
  exact next_l0 n v E hb hE.2.1 n.toNat 0 (by omega) (by have := hE.1; omega)

def cnt (f : List Bool) : Nat := (f.filter fun b => !b).length
theorem rdOf_set {f : List Bool} {u v : Int} (hu : 0 ≤ u) (hu2 : u < (f.length : Int)) (hv : 0 ≤ v) : rdOf false (f.set u.toNat true) v = if u = v then true else rdOf false f v := by
  unfold rdOf
  rw [List.getD_eq_getElem?_getD, List.getD_eq_getElem?_getD, List.getElem?_set]
  by_cases c : u = v
  · subst c
    rw [if_pos rfl, if_pos (by omega), if_pos rfl]; rfl
  · rw [if_neg (by omega), if_neg c]
theorem cnt_set : ∀ {f : List Bool} {i : Nat}, f.getD i false = false → i < f.length → cnt (f.set i true) + 1 = cnt f
  | [], i, _, h => absurd h (Nat.not_lt_zero _)
  | b :: f, 0, h, _ => by
    have : b = false := h
    subst this
    simp [cnt]
  | b :: f, i + 1, h, hl => by
    have hl' : i < f.length := by simpa using hl
    have ih := cnt_set (f := f) (i := i) (by simpa using h) hl'
    unfold cnt at *
    rw [List.set_cons_succ]
    cases b <;> simp at ih ⊢ <;> omega
/-- what the search knows: at is at work -/
structure Inv (n : Int) (E : List Tie) (a : Int) (f : List Bool) (q : List Int) (at_ : Int → Prop) : Prop where
  len : (f.length : Int) = n
  start : rdOf false f a = true
  conn : ∀ v, 0 ≤ v → v < n → rdOf false f v = true → Conn E a v
  queue : ∀ x ∈ q, 0 ≤ x ∧ x < n ∧ rdOf false f x = true
  done : ∀ v, 0 ≤ v → v < n → rdOf false f v = true → v ∈ q ∨ at_ v ∨ ∀ w, tieOf v w ∈ E → rdOf false f w = true
theorem reach_l1 (n : Int) (E : List S51) (a : Int) (c : Int) (hE : ∀ t ∈ E, inr n t) (hc : 0 ≤ c ∧ c < n) (hca : Conn E a c) : ∀ (suf p : List Int) (f : List Bool) (q : List Int),
    ((p ++ suf).length : Int) < big → (∀ x ∈ suf, tieOf c x ∈ E) → q.length + cnt f ≤ 1000 → Inv n E a f q (fun v => v = c) →
    ∃ f' q', Inv n E a f' q' (fun v => v = c) ∧ (∀ x ∈ suf, rdOf false f' x = true) ∧ (∀ x, 0 ≤ x → rdOf false f x = true → rdOf false f' x = true) ∧ q'.length + cnt f' = q.length + cnt f ∧ cnt f' ≤ cnt f ∧
      ∀ r, Ev (fun k => spec_WayReach.l0 k f' q' n E) r → Ev (fun k => spec_WayReach.l1 k f q (p ++ suf) (p.length : Int) n E) r := by
  intro suf
  induction suf with
  | nil =>
    intro p f q hb hs hm hI
    refine ⟨f, q, hI, by simp, fun x _ h => h, rfl, Nat.le_refl _, fun r hr => ?_⟩
    refine Ev.step (fun k => by simp only [spec_WayReach.l1, nlt_end, if_false] <;> exact rfl) hr
  | cons t suf ih =>
    intro p f q hb hs hm hI
    have hp : (p.length : Int) < big := len_mid hb
    have ht : tieOf c t ∈ E := hs t (List.mem_cons_self)
    have htr := (tieOf_ends (hE _ ht)).2.1
    have b1 : 0 ≤ t := htr.1
    have b2 : t < (f.length : Int) := by rw [hI.len]; exact htr.2
    by_cases d : rdOf false f t = true
    · obtain ⟨f', q', h1, h2, h3, h4, h5, h6⟩ := ih (p ++ [t]) f q (len_app hb) (fun x hx => hs x (List.mem_cons_of_mem _ hx)) hm hI
      refine ⟨f', q', h1, fun x hx => ?_, h3, h4, h5, fun r hr => ?_⟩
      · rcases List.mem_cons.1 hx with rfl | hx
        · exact h3 _ b1 d
        · exact h2 x hx
      · refine Ev.step (fun k => by simp only [spec_WayReach.l1, lt_mid, nn, if_true, rd_mid, w_succ (t := t) hp, b1, b2, d] <;> exact rfl) ?_
        rw [app_one p t suf]
        exact h6 r hr
    · have d' : rdOf false f t = false := by simpa using d
      have hcnt := cnt_set (f := f) (i := t.toNat) d' (by omega)
      have hq : q.length < 17592186044416 := by omega
      have hset : ∀ v, 0 ≤ v → rdOf false (f.set t.toNat true) v = if t = v then true else rdOf false f v := fun v hv => rdOf_set b1 b2 hv
      have hI' : Inv n E a (f.set t.toNat true) (q ++ [t]) (fun v => v = c) := by
        refine ⟨by rw [List.length_set]; exact hI.len, ?_, ?_, ?_, ?_⟩
        · by_cases ha : 0 ≤ a
          · rw [hset a ha, hI.start]; simp
          · have h0 := hI.start
            unfold rdOf at h0 ⊢
            rw [List.getD_eq_getElem?_getD] at h0 ⊢
            rw [List.getElem?_set]
            split
            · split <;> simp_all
            · exact h0
        · intro v h0 h1 hv
          rw [hset v h0] at hv
          by_cases e : t = v
          · subst e; exact hca.step ht
          · rw [if_neg e] at hv; exact hI.conn v h0 h1 hv
        · intro x hx
          rcases List.mem_append.1 hx with hx | hx
          · obtain ⟨x0, x1, x2⟩ := hI.queue x hx
            exact ⟨x0, x1, by rw [hset x x0, x2]; simp⟩
          · rw [List.mem_singleton] at hx
            subst hx
            exact ⟨b1, htr.2, by rw [hset _ b1]; simp⟩
        · intro v h0 h1 hv
          rw [hset v h0] at hv
          by_cases e : t = v
          · subst e; exact .inl (by simp)
          · rw [if_neg e] at hv
            rcases hI.done v h0 h1 hv with h | h | h
            · exact .inl (by simp [h])
            · exact .inr (.inl h)
            · refine .inr (.inr (fun w hw => ?_))
              rw [hset w (tieOf_ends (hE _ hw)).2.1.1, h w hw]; simp
      obtain ⟨f', q', h1, h2, h3, h4, h5, h6⟩ := ih (p ++ [t]) (f.set t.toNat true) (q ++ [t]) (len_app hb) (fun x hx => hs x (List.mem_cons_of_mem _ hx)) (by simp; omega) hI'
      refine ⟨f', q', h1, fun x hx => ?_, fun x h0 hx => h3 x h0 (by rw [hset x h0, hx]; simp), by rw [h4]; simp; omega, by omega, fun r hr => ?_⟩
      · rcases List.mem_cons.1 hx with rfl | hx
        · exact h3 _ b1 (by rw [hset _ b1]; simp)
        · exact h2 x hx
      · refine Ev.step (fun k => by simp only [spec_WayReach.l1, lt_mid, nn, if_true, rd_mid, w_succ (t := t) hp, b1, b2, d', Bool.false_eq_true, if_false, hq] <;> exact rfl) ?_
        rw [app_one p t suf]
        exact h6 r hr
theorem reach_end (n : Int) (E : List S51) (a : Int) (hE : ok n E) (f : List Bool) (hI : Inv n E a f [] (fun _ => False)) :
    ∃ f', Ev (fun k => spec_WayReach.l0 k f [] n E) f' ∧ (f'.length : Int) = n ∧ ∀ v, 0 ≤ v → v < n → (rdOf false f' v = true ↔ Conn E a v) := by
  refine ⟨f, Ev.step (fun k => by simp [spec_WayReach.l0] <;> exact rfl) (Ev.val rfl), hI.len, fun v h0 h1 => ⟨hI.conn v h0 h1, fun hc => ?_⟩⟩
  have key : 0 ≤ v ∧ v < n ∧ rdOf false f v = true := by
    refine hc.closed (fun x => 0 ≤ x ∧ x < n ∧ rdOf false f x = true) ?_ ?_
    · have := hc.symm.range hE.2.2.1 ⟨h0, h1⟩
      exact ⟨this.1, this.2, hI.start⟩
    · intro x y hx ht
      have := (tieOf_ends (hE.2.2.1 _ ht)).2.1
      rcases hI.done x hx.1 hx.2.1 hx.2.2 with h | h | h
      · simp at h
      · exact h.elim
      · exact ⟨this.1, this.2, h y ht⟩
  exact key.2.2
theorem reach_l0 (n : Int) (E : List S51) (a : Int) (hE : ok n E) : ∀ (m : Nat) (f : List Bool) (q : List Int), 2 * cnt f + q.length ≤ m → m ≤ 1000 → Inv n E a f q (fun _ => False) →
    ∃ f', Ev (fun k => spec_WayReach.l0 k f q n E) f' ∧ (f'.length : Int) = n ∧ ∀ v, 0 ≤ v → v < n → (rdOf false f' v = true ↔ Conn E a v) := by
  intro m
  induction m with
  | zero =>
    intro f q h1 h2 hI
    have : q = [] := List.length_eq_zero_iff.1 (by omega)
    subst this
    exact reach_end n E a hE f hI
  | succ m ih =>
    intro f q h1 h2 hI
    cases q with
    | nil => exact reach_end n E a hE f hI
    | cons c q =>
      have hc := hI.queue c (List.mem_cons_self)
      have hcc := hI.conn c hc.1 hc.2.1 hc.2.2
      have hI1 : Inv n E a f q (fun v => v = c) := by
        refine ⟨hI.len, hI.start, hI.conn, fun x hx => hI.queue x (List.mem_cons_of_mem _ hx), fun v h0 h1 hv => ?_⟩
        rcases hI.done v h0 h1 hv with h | h | h
        · rcases List.mem_cons.1 h with rfl | h
          · exact .inr (.inl rfl)
          · exact .inl h
        · exact h.elim
        · exact .inr (.inr h)
      have hlen : (((next n E c)).length : Int) < big := by
        have := List.length_filter_le (fun i => decide (tieOf c i ∈ E)) (knots n)
        have e := knots_len n
        have h8 := hE.2.1
        unfold big; unfold next; omega
      simp only [List.length_cons] at h1
      obtain ⟨f', q', i1, i2, i3, i4, i5, i6⟩ := reach_l1 n E a c hE.2.2.1 ⟨hc.1, hc.2.1⟩ hcc (next n E c) [] f q hlen (fun x hx => (mem_next hE.2.2.1).1 hx) (by omega) hI1
      have hI2 : Inv n E a f' q' (fun _ => False) := by
        refine ⟨i1.len, i1.start, i1.conn, i1.queue, fun v h0 h1 hv => ?_⟩
        rcases i1.done v h0 h1 hv with h | h | h
        · exact .inl h
        · refine .inr (.inr (fun w hw => ?_))
          subst h
          exact i2 w ((mem_next hE.2.2.1).2 hw)
        · exact .inr (.inr h)
      obtain ⟨f2, j1, j2⟩ := ih f' q' (by omega) (by omega) hI2
      refine ⟨f2, ?_, j2⟩
      have g1 : ((c :: q).length : Int) > 0 := by rw [List.length_cons]; omega
      have g2 : (0 : Int) < ((c :: q).length : Int) := g1
      have g3 : (1 : Int) ≤ ((c :: q).length : Int) := by omega
      have g4 : rd (c :: q) 0 = c := rfl
      have g5 : (c :: q).drop ((1 : Int)).toNat = q := rfl
      refine Ev.step (fun k => by simp only [spec_WayReach.l0, g1, g2, g3, g4, g5, if_true] <;> exact rfl) ?_
      refine Ev.bind (next_ev n c E hE) ?_
      exact i6 f2 j1
theorem reach_ev (n : Int) (E : List S51) (a : Int) (hE : ok n E) (h0 : 0 ≤ a) (h1 : a < n) :
    ∃ f, Ev (fun k => spec_WayReach.f k n E a) f ∧ (f.length : Int) = n ∧ ∀ v, 0 ≤ v → v < n → (rdOf false f v = true ↔ Conn E a v) := by
  have h8 := hE.2.1
  have hb : (E.length : Int) < big := by have := ok_len hE; unfold big; omega
  have hn : n.toNat ≤ 281474976710656 := by omega
  have hl : ((List.replicate n.toNat false).length : Int) = n := by rw [List.length_replicate]; omega
  have hcnt : cnt (List.replicate n.toNat false) = n.toNat := by simp [cnt]
  have hrep : ∀ v : Int, rdOf false (List.replicate n.toNat false) v = false := fun v => by
    unfold rdOf
    rw [List.getD_eq_getElem?_getD, List.getElem?_replicate]
    split <;> rfl
  have hs := cnt_set (f := List.replicate n.toNat false) (i := a.toNat) (hrep a) (by omega)
  have hset : ∀ v, 0 ≤ v → rdOf false ((List.replicate n.toNat false).set a.toNat true) v = if a = v then true else false := fun v hv => by
    rw [rdOf_set h0 (by omega) hv, hrep]
  have hI : Inv n E a ((List.replicate n.toNat false).set a.toNat true) [a] (fun _ => False) := by
    refine ⟨by rw [List.length_set]; exact hl, by rw [hset a h0]; simp, ?_, ?_, ?_⟩
    · intro v v0 v1 hv
      rw [hset v v0] at hv
      by_cases e : a = v
      · subst e; exact .refl _
      · rw [if_neg e] at hv; simp at hv
    · intro x hx
      rw [List.mem_singleton] at hx
      subst hx
      exact ⟨h0, h1, by rw [hset _ h0]; simp⟩
    · intro v v0 v1 hv
      rw [hset v v0] at hv
      by_cases e : a = v
      · subst e; exact .inl (by simp)
      · rw [if_neg e] at hv; simp at hv
  obtain ⟨f, r1, r2⟩ := reach_l0 n E a hE 100 _ [a] (by simp only [List.length_singleton]; omega) (by omega) hI
  refine ⟨f, ?_, r2⟩
  unfold spec_WayReach.f
  refine Ev.bind (l1Knot_ev n a E hb) ?_
  have c : ok n E ∧ 0 ≤ a ∧ a < n := ⟨hE, h0, h1⟩
  have l2 : a < ((List.replicate n.toNat false).length : Int) := by omega
  simp only [c, and_self, decide_true, if_true, hE.1, hn, Option.bind_some, h0, l2]
  exact r1
end Go.Proofs.YtjkeagcenmmknaaDoor.P
