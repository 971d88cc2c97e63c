/- Going over each tie once: when one can, and how to go on. Plain facts. -/
import Derived.Test.YtbkdpnfjcnkoeaaGd
namespace Go.Proofs.Ytbkdpnfjcnkoeaa.G
set_option linter.unusedSimpArgs false
set_option linter.unusedVariables false
open Go.RowKit Go.Proofs.YtbkdpnfjcnkoeaaW.PrintWords
/-! ### sums of numbers of ties -/
theorem deg_cons (t : Tie) (X : List Tie) (v : Int) : deg (t :: X) v = (if t.f0 = v ∨ t.f1 = v then 1 else 0) + deg X v := by
  unfold deg
  by_cases c : t.f0 = v ∨ t.f1 = v
  · simp [c]; omega
  · simp [c]
theorem sum_one (x : Int) (p : Int → Bool) : ∀ {l : List Int}, l.Nodup → ((l.filter p).map fun v => if x = v then 1 else 0).sum = if x ∈ l ∧ p x = true then 1 else 0
  | [], _ => by simp
  | a :: l, h => by
    obtain ⟨h1, h2⟩ := List.nodup_cons.1 h
    have ih := sum_one x p h2
    by_cases e : x = a
    · subst e
      have z : ¬ (x ∈ l ∧ p x = true) := fun q => h1 q.1
      rw [if_neg z] at ih
      cases hp : p x with
      | true => simp [List.filter_cons, hp, ih]
      | false => simp [List.filter_cons, hp, ih]
    · have e2 : (x ∈ a :: l ∧ p x = true) ↔ (x ∈ l ∧ p x = true) := by simp [e]
      cases hp : p a with
      | true => simp only [List.filter_cons, hp, if_true, List.map_cons, List.sum_cons, if_neg e, ih, e2]; simp
      | false => simp only [List.filter_cons, hp, Bool.false_eq_true, if_false, ih, e2]
theorem sum_add (f g : Int → Nat) : ∀ l : List Int, (l.map fun v => f v + g v).sum = (l.map f).sum + (l.map g).sum
  | [] => rfl
  | a :: l => by simp only [List.map_cons, List.sum_cons, sum_add f g l]; omega
/-- of the knots of a kind: their numbers of ties together -/
def among (n : Int) (p : Int → Bool) (X : List Tie) : Nat := (((knots n).filter p).map (deg X)).sum
theorem among_cons {n : Int} (p : Int → Bool) {t : Tie} (ht : inr n t) (X : List Tie) : among n p (t :: X) = (if p t.f0 = true then 1 else 0) + (if p t.f1 = true then 1 else 0) + among n p X := by
  unfold inr at ht
  unfold among
  have e : ((knots n).filter p).map (deg (t :: X)) = ((knots n).filter p).map (fun v => ((if t.f0 = v then 1 else 0) + (if t.f1 = v then 1 else 0)) + deg X v) := by
    refine List.map_congr_left (fun v _ => ?_)
    rw [deg_cons]
    congr 1
    by_cases c0 : t.f0 = v
    · have : ¬ t.f1 = v := by omega
      simp [c0, this]
    · simp [c0]
  rw [e, sum_add, sum_add, sum_one _ _ (knots_nodup n), sum_one _ _ (knots_nodup n)]
  have m0 : t.f0 ∈ knots n := mem_knots.2 (by omega)
  have m1 : t.f1 ∈ knots n := mem_knots.2 (by omega)
  simp only [m0, m1, true_and]
/-- where no tie leads out, the sum is even -/
theorem among_even {n : Int} (p : Int → Bool) : ∀ {X : List Tie}, (∀ t ∈ X, inr n t) → (∀ t ∈ X, p t.f0 = p t.f1) → among n p X % 2 = 0
  | [], _, _ => by
    have : among n p [] = 0 := by
      unfold among
      have : ∀ l : List Int, (l.map (deg [])).sum = 0 := fun l => by induction l with
        | nil => rfl
        | cons a l ih => rw [List.map_cons, List.sum_cons, ih]; rfl
      exact this _
    omega
  | t :: X, h, hp => by
    have ih := among_even p (fun s hs => h s (List.mem_cons_of_mem _ hs)) (fun s hs => hp s (List.mem_cons_of_mem _ hs))
    rw [among_cons p (h t (List.mem_cons_self)), hp t (List.mem_cons_self)]
    by_cases c : p t.f1 = true
    · simp [c]; omega
    · simp [c]; omega
theorem sum_even_of {f : Int → Nat} : ∀ {l : List Int}, (∀ v ∈ l, f v % 2 = 0) → (l.map f).sum % 2 = 0
  | [], _ => rfl
  | a :: l, h => by
    have := sum_even_of (fun v hv => h v (List.mem_cons_of_mem _ hv))
    have := h a (List.mem_cons_self)
    rw [List.map_cons, List.sum_cons]; omega
/-- an odd sum has an odd part -/
theorem among_odd {n : Int} {p : Int → Bool} {X : List Tie} (h : among n p X % 2 = 1) : ∃ v, (0 ≤ v ∧ v < n) ∧ p v = true ∧ deg X v % 2 = 1 := by
  refine Classical.byContradiction (fun hc => ?_)
  have : among n p X % 2 = 0 := sum_even_of (fun v hv => by
    obtain ⟨h1, h2⟩ := List.mem_filter.1 hv
    have : ¬ deg X v % 2 = 1 := fun h3 => hc ⟨v, mem_knots.1 h1, h2, h3⟩
    omega)
  omega
/-! ### a tie out -/
theorem perm_deg {X Y : List Tie} (h : X.Perm Y) (v : Int) : deg X v = deg Y v := (h.filter _).length_eq
theorem cut_perm {X : List Tie} (hX : X.Nodup) {t : Tie} (ht : t ∈ X) : X.Perm (t :: cut X t) := by
  induction X with
  | nil => simp at ht
  | cons a r ih =>
    obtain ⟨h1, h2⟩ := List.nodup_cons.1 hX
    by_cases e : a = t
    · subst e
      have : cut (a :: r) a = cut r a := by simp [cut]
      rw [this, cut_none h1]
    · have e1 : cut (a :: r) t = a :: cut r t := by simp [cut, e]
      have ht' : t ∈ r := by
        rcases List.mem_cons.1 ht with rfl | h
        · exact absurd rfl e
        · exact h
      rw [e1]
      exact ((ih h2 ht').cons a).trans (List.Perm.swap _ _ _)
theorem deg_cut {X : List Tie} (hX : X.Nodup) {t : Tie} (ht : t ∈ X) (v : Int) : deg X v = (if t.f0 = v ∨ t.f1 = v then 1 else 0) + deg (cut X t) v := by
  rw [perm_deg (cut_perm hX ht), deg_cons]
theorem ends_of (a b v : Int) : ((tieOf a b).f0 = v ∨ (tieOf a b).f1 = v) ↔ (a = v ∨ b = v) := by
  unfold tieOf
  by_cases c : a < b
  · rw [if_pos c]
  · rw [if_neg c]; exact Or.comm
theorem among_cut {n : Int} {X : List Tie} (hX : ok n X) (p : Int → Bool) {t : Tie} (ht : t ∈ X) : among n p X = (if p t.f0 = true then 1 else 0) + (if p t.f1 = true then 1 else 0) + among n p (cut X t) := by
  rw [← among_cons p (hX.2.2.1 t ht)]
  unfold among
  congr 1
  exact List.map_congr_left (fun v _ => perm_deg (cut_perm (asc_nodup hX.2.2.2) ht) v)
/-- the knots with an odd number of ties -/
def oddl (n : Int) (X : List Tie) : List Int := (knots n).filter fun v => decide (deg X v % 2 = 1)
theorem odds_eq (n : Int) (X : List Tie) : odds X n = (oddl n X).length := by
  unfold odds oddl
  generalize knots n = l
  induction l with
  | nil => rfl
  | cons a l ih =>
    rw [List.map_cons, List.sum_cons, ih, List.filter_cons]
    by_cases c : deg X a % 2 = 1
    · simp [c]; omega
    · have : deg X a % 2 = 0 := by omega
      simp [c, this]
theorem mem_oddl {n v : Int} {X : List Tie} : v ∈ oddl n X ↔ (0 ≤ v ∧ v < n) ∧ deg X v % 2 = 1 := by
  unfold oddl; rw [List.mem_filter, mem_knots, decide_eq_true_eq]
theorem oddl_nodup (n : Int) (X : List Tie) : (oddl n X).Nodup := (knots_nodup n).sublist List.filter_sublist
/-- a tie whose ends hang together without it does not matter -/
theorem Conn.without {X : List Tie} {a b : Int} (h : Conn (cut X (tieOf a b)) a b) {x y : Int} (k : Conn X x y) : Conn (cut X (tieOf a b)) x y := by
  induction k with
  | refl => exact .refl _
  | @step u v _ ht ih =>
    by_cases e : tieOf u v = tieOf a b
    · refine ih.trans ?_
      unfold tieOf at e
      by_cases c1 : u < v <;> by_cases c2 : a < b <;> simp [c1, c2] at e <;> obtain ⟨rfl, rfl⟩ := e
      · exact h
      · exact h.symm
      · exact h.symm
      · exact h
    · exact ih.step (mem_cut.2 ⟨ht, e⟩)
theorem cut_other {X : List Tie} {a b u v : Int} (h : tieOf u v ∈ X) (ha : u ≠ a) (hb : v ≠ a) : tieOf u v ∈ cut X (tieOf a b) := by
  refine mem_cut.2 ⟨h, fun e => ?_⟩
  have := (ends_of u v a).1 (by rw [e]; exact (ends_of a b a).2 (.inl rfl))
  rcases this with h | h
  · exact ha h
  · exact hb h
/-- a bridge leads to an odd number of ties -/
theorem bridge_odd {n : Int} {X : List Tie} (hX : ok n X) {a i : Int} (ht : tieOf a i ∈ X) (hb : ¬ Conn (cut X (tieOf a i)) i a) : ∃ w, (0 ≤ w ∧ w < n) ∧ Conn (cut X (tieOf a i)) i w ∧ deg X w % 2 = 1 := by
  classical
  let p : Int → Bool := fun v => decide (Conn (cut X (tieOf a i)) i v)
  have hpi : p i = true := decide_eq_true (Conn.refl _)
  have hpa : p a = false := decide_eq_false hb
  have e1 : among n p (cut X (tieOf a i)) % 2 = 0 := by
    refine among_even p (fun t h => hX.2.2.1 t (mem_cut.1 h).1) (fun t h => ?_)
    have hl := (hX.2.2.1 t (mem_cut.1 h).1).2.1
    have hc := Conn.tie h hl
    show decide _ = decide _
    rw [decide_eq_decide]
    exact ⟨fun q => q.trans hc, fun q => q.trans hc.symm⟩
  have e2 := among_cut hX p ht
  have e3 : (if p (tieOf a i).f0 = true then 1 else 0) + (if p (tieOf a i).f1 = true then 1 else 0) = 1 := by
    unfold tieOf
    by_cases c : a < i
    · rw [if_pos c]; simp [hpi, hpa]
    · rw [if_neg c]; simp [hpi, hpa]
  obtain ⟨w, h1, h2, h3⟩ := among_odd (n := n) (p := p) (X := X) (by omega)
  exact ⟨w, h1, of_decide_eq_true h2, h3⟩
/-! ### how to go on -/
theorem evenly_on {n : Int} {X : List Tie} (hX : ok n X) {a i : Int} (ha : 0 ≤ a ∧ a < n) (ht : tieOf a i ∈ X) (h : evenly n X a) : evenly n (cut X (tieOf a i)) i := by
  have hi := (tieOf_ends (hX.2.2.1 _ ht)).2.1
  have hne := (tieOf_ends (hX.2.2.1 _ ht)).2.2
  have hd : ∀ v, deg X v = (if a = v ∨ i = v then 1 else 0) + deg (cut X (tieOf a i)) v := fun v => by
    rw [deg_cut (asc_nodup hX.2.2.2) ht v]
    congr 1
    simp only [ends_of]
  have da := hd a
  have di := hd i
  rw [if_pos (.inl rfl)] at da
  rw [if_pos (.inr rfl)] at di
  have key : ∀ v, v ≠ a → v ≠ i → deg X v = deg (cut X (tieOf a i)) v := fun v h1 h2 => by
    have := hd v
    rw [if_neg (by simp [Ne.symm h1, Ne.symm h2])] at this
    omega
  unfold evenly at h ⊢
  rw [odds_eq] at h ⊢
  have nd := oddl_nodup n X
  have nd' := oddl_nodup n (cut X (tieOf a i))
  rcases h with h | ⟨h, hao⟩
  · right
    have all : ∀ v, 0 ≤ v ∧ v < n → deg X v % 2 = 0 := fun v hv => by
      have : v ∉ oddl n X := by rw [List.length_eq_zero_iff.1 h]; simp
      rw [mem_oddl] at this
      have : ¬ deg X v % 2 = 1 := fun q => this ⟨hv, q⟩
      omega
    have a0 := all a ha
    have i0 := all i hi
    refine ⟨?_, by omega⟩
    have : (oddl n (cut X (tieOf a i))).length = ([a, i] : List Int).length := nodup_len_eq nd' (by simp [hne]) (fun v => by
      rw [mem_oddl]
      simp only [List.mem_cons, List.not_mem_nil, or_false]
      constructor
      · rintro ⟨hv, hv2⟩
        refine Classical.byContradiction (fun hc => ?_)
        have := key v (fun e => hc (.inl e)) (fun e => hc (.inr e))
        have := all v hv
        omega
      · rintro (rfl | rfl)
        · exact ⟨ha, by omega⟩
        · exact ⟨hi, by omega⟩)
    simpa using this
  · have hao' : a ∈ oddl n X := mem_oddl.2 ⟨ha, hao⟩
    by_cases io : deg X i % 2 = 1
    · left
      have hio : i ∈ oddl n X := mem_oddl.2 ⟨hi, io⟩
      rw [List.length_eq_zero_iff]
      refine List.eq_nil_iff_forall_not_mem.2 (fun v hv => ?_)
      obtain ⟨hv1, hv2⟩ := mem_oddl.1 hv
      have va : v ≠ a := fun e => by subst e; omega
      have vi : v ≠ i := fun e => by subst e; omega
      have hvo : v ∈ oddl n X := mem_oddl.2 ⟨hv1, by rw [key v va vi]; exact hv2⟩
      have := nodup_len_le (l := [a, i, v]) (m := oddl n X) (by simp [hne, va.symm, vi.symm]) (fun x hx => by
        simp only [List.mem_cons, List.not_mem_nil, or_false] at hx
        rcases hx with rfl | rfl | rfl <;> assumption)
      simp at this
      omega
    · right
      refine ⟨?_, by omega⟩
      rw [← h]
      -- the odd ones: a goes, i comes
      have e1 : (oddl n (cut X (tieOf a i))).length = (i :: (oddl n X).erase a).length := nodup_len_eq nd' (by
          rw [List.nodup_cons]
          refine ⟨fun hm => ?_, nd.erase a⟩
          have := List.mem_of_mem_erase hm
          exact io (mem_oddl.1 this).2) (fun v => by
        rw [mem_oddl, List.mem_cons, nd.mem_erase_iff, mem_oddl]
        constructor
        · rintro ⟨hv, hv2⟩
          by_cases vi : v = i
          · exact .inl vi
          · have va : v ≠ a := fun e => by subst e; omega
            exact .inr ⟨va, hv, by rw [key v va vi]; exact hv2⟩
        · rintro (rfl | ⟨va, hv, hv2⟩)
          · exact ⟨hi, by omega⟩
          · have vi : v ≠ i := fun e => by subst e; exact io hv2
            exact ⟨hv, by rw [← key v va vi]; exact hv2⟩)
      rw [e1, List.length_cons, List.length_erase_of_mem hao']
      omega
/-- the knot to go on to -/
theorem go_on {n : Int} {X : List Tie} {a : Int} (h : trailCan n X a) (hne : X ≠ []) : ∃ i, tieOf a i ∈ X ∧ trailCan n (cut X (tieOf a i)) i := by
  obtain ⟨hX, ha, hc, he⟩ := h
  -- a has a tie
  have hsome : ∃ i, tieOf a i ∈ X := by
    obtain ⟨t, ht⟩ := List.exists_mem_of_ne_nil X hne
    have hr := hX.2.2.1 t ht
    have h0 := hc t ht
    refine Classical.byContradiction (fun hn => ?_)
    have : t.f0 = a := (h0.closed (fun x => x = a) rfl (fun x y hx hxy => by subst hx; exact absurd ⟨y, hxy⟩ hn))
    exact hn ⟨t.f1, by rw [← this, tieOf_inr hr]; exact ht⟩
  have fin : ∀ i, tieOf a i ∈ X → (∀ t ∈ cut X (tieOf a i), Conn (cut X (tieOf a i)) i t.f0) → trailCan n (cut X (tieOf a i)) i := fun i hi hh =>
    ⟨ok_cut _ hX, (tieOf_ends (hX.2.2.1 _ hi)).2.1, hh, evenly_on hX ha hi he⟩
  by_cases hb : ∃ i, tieOf a i ∈ X ∧ Conn (cut X (tieOf a i)) i a
  · obtain ⟨i, hi, hb⟩ := hb
    refine ⟨i, hi, fin i hi (fun t ht => ?_)⟩
    exact hb.trans (Conn.without hb.symm (hc t (mem_cut.1 ht).1))
  · obtain ⟨i, hi⟩ := hsome
    have hbi : ¬ Conn (cut X (tieOf a i)) i a := fun q => hb ⟨i, hi, q⟩
    have hia := (tieOf_ends (hX.2.2.1 _ hi)).2.2
    -- no other tie at a
    have only : ∀ j, tieOf a j ∈ X → j = i := by
      intro j hj
      refine Classical.byContradiction (fun hji => ?_)
      have hbj : ¬ Conn (cut X (tieOf a j)) j a := fun q => hb ⟨j, hj, q⟩
      have hja := (tieOf_ends (hX.2.2.1 _ hj)).2.2
      obtain ⟨w, w1, w2, w3⟩ := bridge_odd hX hi hbi
      obtain ⟨u, u1, u2, u3⟩ := bridge_odd hX hj hbj
      -- ways that avoid a
      let Z := X.filter fun t => !decide (t.f0 = a ∨ t.f1 = a)
      have inZ : ∀ x y, tieOf x y ∈ X → x ≠ a → y ≠ a → tieOf x y ∈ Z := fun x y hxy hx hy => by
        refine List.mem_filter.2 ⟨hxy, ?_⟩
        have : ¬ ((tieOf x y).f0 = a ∨ (tieOf x y).f1 = a) := fun q => by
          rcases (ends_of x y a).1 q with q | q
          · exact hx q
          · exact hy q
        simp [this]
      have avoid : ∀ k, tieOf a k ∈ X → ¬ Conn (cut X (tieOf a k)) k a → ∀ v, Conn (cut X (tieOf a k)) k v → v ≠ a ∧ Conn Z k v := by
        intro k hk hbk v hv
        have hka := (tieOf_ends (hX.2.2.1 _ hk)).2.2
        induction hv with
        | refl => exact ⟨hka.symm, .refl _⟩
        | @step x y hx hxy ih =>
          have hy : y ≠ a := fun e => hbk (by subst e; exact hx.step hxy)
          exact ⟨hy, ih.2.step (inZ x y (mem_cut.1 hxy).1 ih.1 hy)⟩
      have hZi : ∀ t ∈ Z, t ∈ cut X (tieOf a i) := fun t ht => by
        obtain ⟨h1, h2⟩ := List.mem_filter.1 ht
        refine mem_cut.2 ⟨h1, fun e => ?_⟩
        have : t.f0 = a ∨ t.f1 = a := by rw [e]; exact (ends_of a i a).2 (.inl rfl)
        simp [this] at h2
      obtain ⟨wa, wZ⟩ := avoid i hi hbi w w2
      obtain ⟨ua, uZ⟩ := avoid j hj hbj u u2
      -- there are two odd ones only
      have huw : u = w := by
        refine Classical.byContradiction (fun huw => ?_)
        unfold evenly at he
        rw [odds_eq] at he
        have hw : w ∈ oddl n X := mem_oddl.2 ⟨w1, w3⟩
        have hu : u ∈ oddl n X := mem_oddl.2 ⟨u1, u3⟩
        rcases he with he | ⟨he, hao⟩
        · rw [List.length_eq_zero_iff.1 he] at hw; simp at hw
        · have hao' : a ∈ oddl n X := mem_oddl.2 ⟨ha, hao⟩
          have := nodup_len_le (l := [a, u, w]) (m := oddl n X) (by simp [huw, wa.symm, ua.symm]) (fun x hx => by
            simp only [List.mem_cons, List.not_mem_nil, or_false] at hx
            rcases hx with rfl | rfl | rfl <;> assumption)
          simp at this
          omega
      subst huw
      refine hbi (((wZ.mono hZi).trans (uZ.mono hZi).symm).trans (Conn.one ?_))
      refine mem_cut.2 ⟨by rw [tieOf_comm]; exact hj, fun e => hji ?_⟩
      rw [tieOf_comm] at e
      exact tieOf_inj e
    refine ⟨i, hi, fin i hi (fun t ht => ?_)⟩
    have htX := (mem_cut.1 ht).1
    have hr := hX.2.2.1 t htX
    have key : ∀ v, Conn X a v → v = a ∨ Conn (cut X (tieOf a i)) i v := fun v hv =>
      hv.closed (fun x => x = a ∨ Conn (cut X (tieOf a i)) i x) (.inl rfl) (fun x y hx hxy => by
        by_cases ya : y = a
        · exact .inl ya
        · right
          rcases hx with rfl | hx
          · rw [only y hxy]; exact .refl _
          · by_cases xa : x = a
            · subst xa; exact absurd hx hbi
            · exact hx.step (cut_other hxy xa ya))
    rcases key t.f0 (hc t htX) with e | e
    · exfalso
      have h1 : tieOf a t.f1 = t := by rw [← e, tieOf_inr hr]
      have h2 := only t.f1 (by rw [h1]; exact htX)
      have : t ≠ tieOf a i := (mem_cut.1 ht).2
      exact this (by rw [← h2, h1])
    · exact e
end Go.Proofs.Ytbkdpnfjcnkoeaa.G
