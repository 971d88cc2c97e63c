/- The proof's parts ahead of the row: of no condition of their own. -/
import Derived.Test.YtddadihobjinhaaZFnSideOdd5
import Derived.Deep.Slices
import Derived.ProofKit
set_option linter.unusedVariables false
set_option linter.unusedSimpArgs false
namespace Go.Proofs.Ytddadihobjinhaa.P
open Go.RowKit Go.Proofs.YtddadihobjinhaaW.PrintWords Go.Proofs.Ytddadihobjinhaa.G
theorem rdC_mid (pre : List S53) (t : S53) (suf : List S53) : rd_T53 (pre ++ t :: suf) (pre.length : Int) = t := by
 unfold rd_T53; exact getD_mid pre t suf _
theorem tie_beq2 (a b : Int) (t : Tie) : (a == t.f0 && (b == t.f1)) = decide ((⟨a, b⟩ : Tie) = t) := by
 obtain ⟨c, d⟩ := t
 simp only [Tie.mk.injEq]
 by_cases h : a = c <;> by_cases k : b = d <;> simp [h, k]
theorem indexTie_l0 (a b : Int) : ∀ (suf p : List S53), ((p ++ suf).length : Int) < big →
  ∃ r, Ev (fun k => slices_Index_impl_Tie_impl_Tie.l0 k (p ++ suf) ((p ++ suf).length : Int) (p.length : Int) a b) r ∧ (r ≥ 0 ↔ (⟨a, b⟩ : Tie) ∈ suf) := by
 intro suf
 induction suf with
 | nil =>
  intro p hb
  refine ⟨-1, Ev.step (fun k => by simp only [slices_Index_impl_Tie_impl_Tie.l0, nlt_end, if_false] <;> exact rfl) (Ev.val rfl), by simp⟩
 | cons t suf ih =>
  intro p hb
  have hp : (p.length : Int) < big := len_mid hb
  by_cases c : (⟨a, b⟩ : Tie) = t
  ·refine ⟨p.length, ?_, ?_⟩
   ·refine Ev.step (fun k => by simp only [slices_Index_impl_Tie_impl_Tie.l0, lt_mid, nn, if_true, rdC_mid, w_succ (t := t) hp, tie_beq2, decide_eq_true_eq, if_pos c] <;> exact rfl) ?_
    exact Ev.val rfl
   ·simp [c]
  ·obtain ⟨r, hr, hi⟩ := ih (p ++ [t]) (len_app hb)
   refine ⟨r, ?_, ?_⟩
   ·refine Ev.step (fun k => by simp only [slices_Index_impl_Tie_impl_Tie.l0, lt_mid, nn, if_true, rdC_mid, w_succ (t := t) hp, tie_beq2, decide_eq_true_eq, if_neg c] <;> exact rfl) ?_
    rw [app_one p t suf]
    exact hr
   ·rw [hi]; simp [c]
theorem containsTie_ev (E : List S53) (a b : Int) (hb : (E.length : Int) < big) : Ev (fun k => slices_Contains_impl_Tie_impl_Tie.f k E a b) (decide ((⟨a, b⟩ : Tie) ∈ E)) := by
 unfold slices_Contains_impl_Tie_impl_Tie.f slices_Index_impl_Tie_impl_Tie.f
 obtain ⟨r, hr, hi⟩ := indexTie_l0 a b E [] hb
 refine Ev.bind hr (Ev.val ?_)
 exact congrArg some (decide_eq_decide.2 hi)
end Go.Proofs.Ytddadihobjinhaa.P
namespace Go.Proofs.Ytddadihobjinhaa.P
open Go.RowKit Go.Proofs.YtddadihobjinhaaW.PrintWords Go.Proofs.Ytddadihobjinhaa.G
theorem knot_eq (n a : Int) (E : List S53) : impl_Net_knot.f n E a = some (decide (0 ≤ a ∧ a < n)) := by
 unfold impl_Net_knot.f
 by_cases h : 0 ≤ a <;> simp [h]
theorem tie_eq (a b : Int) : impl_tie.f a b = some ((tieOf a b).f0, (tieOf a b).f1) := by
 unfold impl_tie.f tieOf mn mx
 rcases Int.lt_trichotomy a b with h | h | h
 ·simp [h]; omega
 ·subst h; simp
 ·have : ¬ a < b := by omega
  simp [this, h]
theorem has_ev (n a b : Int) (E : List S53) (hE : (E.length : Int) < big) : Ev (fun k => impl_Net_has.f k n E a b) (decide (tieOf a b ∈ E)) := by
 unfold impl_Net_has.f
 simp only [tie_eq, Option.bind_some]
 exact Ev.bind (containsTie_ev E _ _ hE) (Ev.val rfl)
end Go.Proofs.Ytddadihobjinhaa.P
namespace Go.Proofs.Ytddadihobjinhaa.P
open Go.RowKit Go.Proofs.YtddadihobjinhaaW.PrintWords Go.Proofs.Ytddadihobjinhaa.G
theorem indexInt_l0 (a : Int) : ∀ (suf p : List Int), ((p ++ suf).length : Int) < big → a ∉ p →
  ∃ r, Ev (fun k => slices_Index_int_int.l0 k (p ++ suf) a ((p ++ suf).length : Int) (p.length : Int)) r ∧ (r ≥ 0 ↔ a ∈ p ++ suf) := by
 intro suf
 induction suf with
 | nil =>
  intro p hb hp
  refine ⟨-1, Ev.step (fun k => by simp only [slices_Index_int_int.l0, nlt_end, if_false] <;> exact rfl) (Ev.val rfl), ?_⟩
  simp [hp]
 | cons t suf ih =>
  intro p hb hp
  have hl : (p.length : Int) < big := len_mid hb
  by_cases c : a = t
  ·refine ⟨(p.length : Int), Ev.step (fun k => by simp only [slices_Index_int_int.l0, lt_mid, nn, if_true, rd_mid, if_pos c] <;> exact rfl) (Ev.val rfl), ?_⟩
   simp [c]
  ·obtain ⟨r, h1, h2⟩ := ih (p ++ [t]) (by rw [← app_one]; exact hb) (by simp [hp, c])
   rw [← app_one] at h1 h2
   exact ⟨r, Ev.step (fun k => by simp only [slices_Index_int_int.l0, lt_mid, nn, if_true, rd_mid, if_neg c, w_succ (t := t) hl] <;> exact rfl) h1, h2⟩
theorem containsInt_ev (l : List Int) (a : Int) (hb : (l.length : Int) < big) : Ev (fun k => slices_Contains_int_int.f k l a) (decide (a ∈ l)) := by
 unfold slices_Contains_int_int.f slices_Index_int_int.f
 obtain ⟨r, h1, h2⟩ := indexInt_l0 a l [] hb (by simp)
 refine Ev.bind h1 (Ev.val ?_)
 rw [decide_eq_decide.2 h2]; rfl
theorem clone_eq (l : List Int) (h : l.length < 17592186044416) : slices_Clone_int_int.f l = some l := by
 unfold slices_Clone_int_int.f
 simp [h]
theorem knots_mid {n : Int} {p : List Int} {t : Int} {suf : List Int} (h : p ++ t :: suf = knots n) : t = (p.length : Int) ∧ (p.length : Int) < n := by
 have e : (knots n)[p.length]? = some t := by rw [← h]; simp
 have hl : p.length < (knots n).length := by rw [← h]; simp
 rw [knots_len] at hl
 unfold knots at e
 rw [List.getElem?_map, List.getElem?_range hl] at e
 simp at e
 omega
theorem knots_end {n : Int} {p : List Int} (h0 : 0 ≤ n) (h : p ++ [] = knots n) : (p.length : Int) = n := by
 have := knots_len n
 rw [← h] at this
 simp at this
 omega
theorem len_predI (p : List Int) (v : Int) (h : p.length ≤ 100) : wrap64 (((p ++ [v]).length : Int) - 1) = (p.length : Int) := by
 have e : (p ++ [v]).length = p.length + 1 := by simp
 rw [w64 (by omega) (by omega)]; omega
theorem ways_ev (n b : Int) (E : List S53) (hE : ok n E) : ∀ (d : Nat) (pre : List Int) (v : Int) (out : List (List Int)), (pre ++ [v]).Nodup → (∀ x ∈ pre ++ [v], 0 ≤ x ∧ x < n) → n ≤ (d : Int) + pre.length → d ≤ 9 → out.length + 8 ^ d ≤ 4000000000 →
  Ev (fun k => impl_Net_ways.f k n E (pre ++ [v]) b out) (out ++ waysG n E b d pre v) := by
 have hEl := ok_len hE
 have hEb : (E.length : Int) < big := by unfold big; omega
 have len : ∀ (pre : List Int) (v : Int), (pre ++ [v]).Nodup → (∀ x ∈ pre ++ [v], 0 ≤ x ∧ x < n) → (pre.length : Int) + 1 ≤ n := by
  intro pre v hn hr
  have := nodup_len_le hn (fun x hx => mem_knots.2 (hr x hx))
  rw [knots_len, List.length_append, List.length_singleton] at this
  have := hE.1
  omega
 intro d
 induction d with
 | zero =>
  intro pre v out hn hr hd _ _
  have := len pre v hn hr
  omega
 | succ d ih =>
  intro pre v out hn hr hd h9 hl
  have l1 := len pre v hn hr
  have h8 := hE.2.1
  have hw := len_predI pre v (by omega)
  have c0 : (0 : Int) ≤ (pre.length : Int) := nn _
  have c1 : (pre.length : Int) < ((pre ++ [v]).length : Int) := by simp; omega
  have er : rd (pre ++ [v]) (pre.length : Int) = v := rd_mid pre v []
  have lw : (pre ++ [v]).length < 17592186044416 := by simp; omega
  have hwb : ((pre ++ [v]).length : Int) < big := by simp [big]; omega
  have p1 : 0 < 8 ^ d := Nat.pow_pos (by omega)
  rw [Nat.pow_succ] at hl
  by_cases c : v = b
  ·have lo : out.length < 5864062014805 := by omega
   refine Ev.step (fun k => by simp only [impl_Net_ways.f, hw, if_pos c0, if_pos c1, er, if_pos c, clone_eq _ lw, Option.bind_some, if_pos lo] <;> exact rfl) (Ev.val ?_)
   unfold waysG
   rw [if_pos c]
  ·refine Ev.step (fun k => by simp only [impl_Net_ways.f, hw, if_pos c0, if_pos c1, er, if_neg c] <;> exact rfl) ?_
   have wg : waysG n E b (d + 1) pre v = (((knots n).filter fun i => decide (tieOf v i ∈ E)).filter fun k => !decide (k ∈ pre ++ [v])).flatMap fun k => waysG n E b d (pre ++ [v]) k := by
    rw [waysG, if_neg c]; rfl
   rw [wg]
   have loop : ∀ (suf p : List Int) (out' : List (List Int)), p ++ suf = knots n → out'.length + suf.length * 8 ^ d ≤ 4000000000 →
     Ev (fun k => impl_Net_ways.l0 k (pre ++ [v]) b out' v n (p.length : Int) n E) (out' ++ ((suf.filter fun i => decide (tieOf v i ∈ E)).filter fun k => !decide (k ∈ pre ++ [v])).flatMap fun k => waysG n E b d (pre ++ [v]) k) := by
    intro suf
    induction suf with
    | nil =>
     intro p out' hp _
     have e := knots_end hE.1 hp
     have e2 : ¬ (p.length : Int) < n := by omega
     exact Ev.step (fun k => by simp only [impl_Net_ways.l0, if_neg e2] <;> exact rfl) (Ev.val (by simp))
    | cons t suf ih2 =>
     intro p out' hp ho
     obtain ⟨et, hlt⟩ := knots_mid hp
     rw [List.length_cons, Nat.succ_mul] at ho
     have hp2 : (p ++ [t]) ++ suf = knots n := by rw [← hp]; simp
     have ws : wrap64 ((p.length : Int) + 1) = ((p ++ [t]).length : Int) := by rw [w64 (by omega) (by omega)]; simp
     refine Ev.step (fun k => by simp only [impl_Net_ways.l0, if_pos hlt] <;> exact rfl) ?_
     refine Ev.bind (has_ev n v (p.length : Int) E hEb) ?_
     rw [← et]
     by_cases ct : tieOf v t ∈ E
     ·simp only [ct, decide_true, if_true]
      refine Ev.bind (containsInt_ev (pre ++ [v]) t hwb) ?_
      by_cases cw : t ∈ pre ++ [v]
      ·refine Ev.step (fun k => by simp only [impl_Net_ways.j1, cw, decide_true, Bool.not_true, Bool.false_eq_true, if_false] <;> exact rfl) ?_
       have := ih2 (p ++ [t]) out' hp2 (by omega)
       rw [et, ws]
       rw [et] at cw ct
       have e2 : ((t :: suf).filter fun i => decide (tieOf v i ∈ E)).filter (fun k => !decide (k ∈ pre ++ [v])) = (suf.filter fun i => decide (tieOf v i ∈ E)).filter (fun k => !decide (k ∈ pre ++ [v])) := by
        rw [et]
        simp only [List.filter_cons, ct, decide_true, if_true, cw, Bool.not_true, Bool.false_eq_true, if_false]
       rw [← et, e2]
       exact this
      ·have nd : ((pre ++ [v]) ++ [t]).Nodup := by
        rw [List.nodup_append]
        exact ⟨hn, by simp, fun x hx y hy e => by rw [List.mem_singleton] at hy; subst hy; subst e; exact cw hx⟩
       have rg : ∀ x ∈ (pre ++ [v]) ++ [t], 0 ≤ x ∧ x < n := by
        intro x hx
        rcases List.mem_append.1 hx with hx | hx
        ·exact hr x hx
        ·rw [List.mem_singleton] at hx; omega
       have g := ih (pre ++ [v]) t out' nd rg (by simp only [List.length_append, List.length_singleton]; omega) (by omega) (by omega)
       have lt : (pre ++ [v]).length + [t].length < 17592186044416 := by simp; omega
       refine Ev.step (fun k => by simp only [impl_Net_ways.j1, cw, decide_false, Bool.not_false, if_true, clone_eq _ lw, Option.bind_some, if_pos lt] <;> exact rfl) ?_
       refine Ev.bind g ?_
       have gl := waysG_len (tgt := b) (E := E) hE.2.1 d (pre ++ [v]) t
       have := ih2 (p ++ [t]) (out' ++ waysG n E b d (pre ++ [v]) t) hp2 (by rw [List.length_append]; omega)
       rw [et, ws]
       have e2 : ((t :: suf).filter fun i => decide (tieOf v i ∈ E)).filter (fun k => !decide (k ∈ pre ++ [v])) = t :: (suf.filter fun i => decide (tieOf v i ∈ E)).filter (fun k => !decide (k ∈ pre ++ [v])) := by
        simp only [List.filter_cons, ct, decide_true, if_true, cw, decide_false, Bool.not_false]
       rw [← et, e2, List.flatMap_cons, ← List.append_assoc]
       exact this
     ·simp only [ct, decide_false, Bool.false_eq_true, if_false]
      refine Ev.step (fun k => by simp only [impl_Net_ways.j1, Bool.false_eq_true, if_false] <;> exact rfl) ?_
      have := ih2 (p ++ [t]) out' hp2 (by omega)
      rw [et, ws]
      have e2 : ((t :: suf).filter fun i => decide (tieOf v i ∈ E)) = (suf.filter fun i => decide (tieOf v i ∈ E)) := by
       simp only [List.filter_cons, ct, decide_false, Bool.false_eq_true, if_false]
      rw [← et, e2]
      exact this
   refine loop (knots n) [] out (by simp) ?_
   rw [knots_len]
   have : n.toNat * 8 ^ d ≤ 8 * 8 ^ d := Nat.mul_le_mul_right _ (by omega)
   omega
theorem all_ev (n a b : Int) (E : List S53) (hE : ok n E) (ha : 0 ≤ a ∧ a < n) : Ev (fun k => impl_Net_all.f k n E a b) (allG n E a b) := by
 unfold impl_Net_all.f allF
 have := ways_ev n b E hE 9 [] a [] (by simp) (by simpa using ha) (by have := hE.2.1; simp; omega) (by omega) (by simp)
 rw [List.nil_append, List.nil_append] at this
 refine Ev.bind this ?_
 have gl := waysG_len (tgt := b) (E := E) hE.2.1 9 [] a
 have l : (waysG n E b 9 [] a).length < 4611686018427387904 := by omega
 simp only [if_pos l]
 exact Ev.val rfl
end Go.Proofs.Ytddadihobjinhaa.P
namespace Go.Proofs.Ytddadihobjinhaa.P
open Go.RowKit Go.Proofs.YtddadihobjinhaaW.PrintWords Go.Proofs.Ytddadihobjinhaa.G
theorem l1Knot_ev (n a : Int) (E : List S53) (hE : (E.length : Int) < big) : Ev (fun k => spec_l1Knot.f k n E a) (decide (ok n E ∧ 0 ≤ a ∧ a < n)) := by
 unfold spec_l1Knot.f
 refine Ev.bind (specOk n E hE) ?_
 by_cases c : ok n E
 ·simp only [c, decide_true, if_true, in_eq, Option.bind_some]
  rw [w64 (by have := c.1; omega) (by have := c.2.1; omega)]
  refine Ev.val (congrArg some (decide_eq_decide.2 ?_))
  exact ⟨fun h => ⟨trivial, h.1, by omega⟩, fun h => ⟨h.2.1, by omega⟩⟩
 ·simp only [c, decide_false, Bool.false_eq_true, if_false]
  exact Ev.val (congrArg some (decide_eq_false (by simp)).symm)
theorem specHas_ev (n a b : Int) (E : List S53) (hE : (E.length : Int) < big) : Ev (fun k => spec_NetHas.f k n E a b) (decide (ok n E ∧ tieOf a b ∈ E)) := by
 unfold spec_NetHas.f
 refine Ev.bind (specOk n E hE) ?_
 by_cases c : ok n E
 ·simp only [c, decide_true, if_true]
  refine Ev.bind (l1Has_ev n a b E hE) ?_
  exact Ev.val (by simp)
 ·simp only [c, decide_false, Bool.false_eq_true, if_false]
  exact Ev.val (by simp)
theorem copy_eq (n : Int) (E : List S53) (hE : (E.length : Int) ≤ 1048576) : spec_l1Copy.f n E = some (n, E) := by
 unfold spec_l1Copy.f
 have : ([] : List S53).length + E.length < 8796093022208 := by simp; omega
 simp only [Option.bind_some, this, if_true, List.nil_append]
end Go.Proofs.Ytddadihobjinhaa.P
namespace Go.Proofs.Ytddadihobjinhaa.P
open Go.RowKit Go.Proofs.YtddadihobjinhaaW.PrintWords Go.Proofs.Ytddadihobjinhaa.G
theorem next_l0 (n v : Int) (E : List S53) (hE : (E.length : Int) < big) (h8 : n ≤ 8) : ∀ (d : Nat) (i : Int), 0 ≤ i → i + d = n →
  Ev (fun k => spec_l2Next.l0 k v ((knots i).filter fun j => decide (tieOf v j ∈ E)) i n E) (next n E v) := by
 intro d
 induction d with
 | zero =>
  intro i h0 hi
  have hi' : i = n := by omega
  subst hi'
  have c : ¬ i < i := by omega
  refine Ev.step (fun k => by simp only [spec_l2Next.l0, c, if_false] <;> exact rfl) ?_
  exact Ev.val rfl
 | succ d ih =>
  intro i h0 hi
  have c : i < n := by omega
  have w : wrap64 (i + 1) = i + 1 := w64 (by omega) (by omega)
  have hl : ((knots i).filter fun j => decide (tieOf v j ∈ E)).length < 17592186044416 := by
   have := List.length_filter_le (fun j => decide (tieOf v j ∈ E)) (knots i)
   rw [knots_len] at this
   omega
  refine Ev.step (fun k => by simp only [spec_l2Next.l0, c, if_true, w, hl] <;> exact rfl) ?_
  refine Ev.bind (l1Has_ev n v i E hE) ?_
  have e := ih (i + 1) (by omega) (by omega)
  rw [knots_succ h0, List.filter_append] at e
  by_cases d : tieOf v i ∈ E
  ·simp only [d, decide_true, if_true]
   simpa [d] using e
  ·simp only [d, decide_false, Bool.false_eq_true, if_false]
   simpa [d] using e
theorem next_ev (n v : Int) (E : List S53) (hE : ok n E) : Ev (fun k => spec_l2Next.f k n E v) (next n E v) := by
 unfold spec_l2Next.f
 have hb : (E.length : Int) < big := by have := ok_len hE; unfold big; omega
 exact next_l0 n v E hb hE.2.1 n.toNat 0 (by omega) (by have := hE.1; omega)
def cnt (f : List Bool) : Nat := (f.filter fun b => !b).length
theorem rdOf_set {f : List Bool} {u v : Int} (hu : 0 ≤ u) (hu2 : u < (f.length : Int)) (hv : 0 ≤ v) : rdOf false (f.set u.toNat true) v = if u = v then true else rdOf false f v := by
 unfold rdOf
 rw [List.getD_eq_getElem?_getD, List.getD_eq_getElem?_getD, List.getElem?_set]
 by_cases c : u = v
 ·subst c
  rw [if_pos rfl, if_pos (by omega), if_pos rfl]; rfl
 ·rw [if_neg (by omega), if_neg c]
theorem cnt_set : ∀ {f : List Bool} {i : Nat}, f.getD i false = false → i < f.length → cnt (f.set i true) + 1 = cnt f
 | [], i, _, h => absurd h (Nat.not_lt_zero _)
 | b :: f, 0, h, _ => by
  have : b = false := h
  subst this
  simp [cnt]
 | b :: f, i + 1, h, hl => by
  have hl' : i < f.length := by simpa using hl
  have ih := cnt_set (f := f) (i := i) (by simpa using h) hl'
  unfold cnt at *
  rw [List.set_cons_succ]
  cases b <;> simp at ih ⊢ <;> omega
structure Inv (n : Int) (E : List Tie) (a : Int) (f : List Bool) (q : List Int) (at_ : Int → Prop) : Prop where
 len : (f.length : Int) = n
 start : rdOf false f a = true
 conn : ∀ v, 0 ≤ v → v < n → rdOf false f v = true → Conn E a v
 queue : ∀ x ∈ q, 0 ≤ x ∧ x < n ∧ rdOf false f x = true
 done : ∀ v, 0 ≤ v → v < n → rdOf false f v = true → v ∈ q ∨ at_ v ∨ ∀ w, tieOf v w ∈ E → rdOf false f w = true
theorem reach_l1 (n : Int) (E : List S53) (a : Int) (c : Int) (hE : ∀ t ∈ E, inr n t) (hc : 0 ≤ c ∧ c < n) (hca : Conn E a c) : ∀ (suf p : List Int) (f : List Bool) (q : List Int),
  ((p ++ suf).length : Int) < big → (∀ x ∈ suf, tieOf c x ∈ E) → q.length + cnt f ≤ 1000 → Inv n E a f q (fun v => v = c) →
  ∃ f' q', Inv n E a f' q' (fun v => v = c) ∧ (∀ x ∈ suf, rdOf false f' x = true) ∧ (∀ x, 0 ≤ x → rdOf false f x = true → rdOf false f' x = true) ∧ q'.length + cnt f' = q.length + cnt f ∧ cnt f' ≤ cnt f ∧
   ∀ r, Ev (fun k => spec_WayReach.l0 k f' q' n E) r → Ev (fun k => spec_WayReach.l1 k f q (p ++ suf) (p.length : Int) n E) r := by
 intro suf
 induction suf with
 | nil =>
  intro p f q hb hs hm hI
  refine ⟨f, q, hI, by simp, fun x _ h => h, rfl, Nat.le_refl _, fun r hr => ?_⟩
  refine Ev.step (fun k => by simp only [spec_WayReach.l1, nlt_end, if_false] <;> exact rfl) hr
 | cons t suf ih =>
  intro p f q hb hs hm hI
  have hp : (p.length : Int) < big := len_mid hb
  have ht : tieOf c t ∈ E := hs t (List.mem_cons_self)
  have htr := (tieOf_ends (hE _ ht)).2.1
  have b1 : 0 ≤ t := htr.1
  have b2 : t < (f.length : Int) := by rw [hI.len]; exact htr.2
  by_cases d : rdOf false f t = true
  ·obtain ⟨f', q', h1, h2, h3, h4, h5, h6⟩ := ih (p ++ [t]) f q (len_app hb) (fun x hx => hs x (List.mem_cons_of_mem _ hx)) hm hI
   refine ⟨f', q', h1, fun x hx => ?_, h3, h4, h5, fun r hr => ?_⟩
   ·rcases List.mem_cons.1 hx with rfl | hx
    ·exact h3 _ b1 d
    ·exact h2 x hx
   ·refine Ev.step (fun k => by simp only [spec_WayReach.l1, lt_mid, nn, if_true, rd_mid, w_succ (t := t) hp, b1, b2, d] <;> exact rfl) ?_
    rw [app_one p t suf]
    exact h6 r hr
  ·have d' : rdOf false f t = false := by simpa using d
   have hcnt := cnt_set (f := f) (i := t.toNat) d' (by omega)
   have hq : q.length < 17592186044416 := by omega
   have hset : ∀ v, 0 ≤ v → rdOf false (f.set t.toNat true) v = if t = v then true else rdOf false f v := fun v hv => rdOf_set b1 b2 hv
   have hI' : Inv n E a (f.set t.toNat true) (q ++ [t]) (fun v => v = c) := by
    refine ⟨by rw [List.length_set]; exact hI.len, ?_, ?_, ?_, ?_⟩
    ·by_cases ha : 0 ≤ a
     ·rw [hset a ha, hI.start]; simp
     ·have h0 := hI.start
      unfold rdOf at h0 ⊢
      rw [List.getD_eq_getElem?_getD] at h0 ⊢
      rw [List.getElem?_set]
      split
      ·split <;> simp_all
      ·exact h0
    ·intro v h0 h1 hv
     rw [hset v h0] at hv
     by_cases e : t = v
     ·subst e; exact hca.step ht
     ·rw [if_neg e] at hv; exact hI.conn v h0 h1 hv
    ·intro x hx
     rcases List.mem_append.1 hx with hx | hx
     ·obtain ⟨x0, x1, x2⟩ := hI.queue x hx
      exact ⟨x0, x1, by rw [hset x x0, x2]; simp⟩
     ·rw [List.mem_singleton] at hx
      subst hx
      exact ⟨b1, htr.2, by rw [hset _ b1]; simp⟩
    ·intro v h0 h1 hv
     rw [hset v h0] at hv
     by_cases e : t = v
     ·subst e; exact .inl (by simp)
     ·rw [if_neg e] at hv
      rcases hI.done v h0 h1 hv with h | h | h
      ·exact .inl (by simp [h])
      ·exact .inr (.inl h)
      ·refine .inr (.inr (fun w hw => ?_))
       rw [hset w (tieOf_ends (hE _ hw)).2.1.1, h w hw]; simp
   obtain ⟨f', q', h1, h2, h3, h4, h5, h6⟩ := ih (p ++ [t]) (f.set t.toNat true) (q ++ [t]) (len_app hb) (fun x hx => hs x (List.mem_cons_of_mem _ hx)) (by simp; omega) hI'
   refine ⟨f', q', h1, fun x hx => ?_, fun x h0 hx => h3 x h0 (by rw [hset x h0, hx]; simp), by rw [h4]; simp; omega, by omega, fun r hr => ?_⟩
   ·rcases List.mem_cons.1 hx with rfl | hx
    ·exact h3 _ b1 (by rw [hset _ b1]; simp)
    ·exact h2 x hx
   ·refine Ev.step (fun k => by simp only [spec_WayReach.l1, lt_mid, nn, if_true, rd_mid, w_succ (t := t) hp, b1, b2, d', Bool.false_eq_true, if_false, hq] <;> exact rfl) ?_
    rw [app_one p t suf]
    exact h6 r hr
theorem reach_end (n : Int) (E : List S53) (a : Int) (hE : ok n E) (f : List Bool) (hI : Inv n E a f [] (fun _ => False)) :
  ∃ f', Ev (fun k => spec_WayReach.l0 k f [] n E) f' ∧ (f'.length : Int) = n ∧ ∀ v, 0 ≤ v → v < n → (rdOf false f' v = true ↔ Conn E a v) := by
 refine ⟨f, Ev.step (fun k => by simp [spec_WayReach.l0] <;> exact rfl) (Ev.val rfl), hI.len, fun v h0 h1 => ⟨hI.conn v h0 h1, fun hc => ?_⟩⟩
 have key : 0 ≤ v ∧ v < n ∧ rdOf false f v = true := by
  refine hc.closed (fun x => 0 ≤ x ∧ x < n ∧ rdOf false f x = true) ?_ ?_
  ·have := hc.symm.range hE.2.2.1 ⟨h0, h1⟩
   exact ⟨this.1, this.2, hI.start⟩
  ·intro x y hx ht
   have := (tieOf_ends (hE.2.2.1 _ ht)).2.1
   rcases hI.done x hx.1 hx.2.1 hx.2.2 with h | h | h
   ·simp at h
   ·exact h.elim
   ·exact ⟨this.1, this.2, h y ht⟩
 exact key.2.2
theorem reach_l0 (n : Int) (E : List S53) (a : Int) (hE : ok n E) : ∀ (m : Nat) (f : List Bool) (q : List Int), 2 * cnt f + q.length ≤ m → m ≤ 1000 → Inv n E a f q (fun _ => False) →
  ∃ f', Ev (fun k => spec_WayReach.l0 k f q n E) f' ∧ (f'.length : Int) = n ∧ ∀ v, 0 ≤ v → v < n → (rdOf false f' v = true ↔ Conn E a v) := by
 intro m
 induction m with
 | zero =>
  intro f q h1 h2 hI
  have : q = [] := List.length_eq_zero_iff.1 (by omega)
  subst this
  exact reach_end n E a hE f hI
 | succ m ih =>
  intro f q h1 h2 hI
  cases q with
  | nil => exact reach_end n E a hE f hI
  | cons c q =>
   have hc := hI.queue c (List.mem_cons_self)
   have hcc := hI.conn c hc.1 hc.2.1 hc.2.2
   have hI1 : Inv n E a f q (fun v => v = c) := by
    refine ⟨hI.len, hI.start, hI.conn, fun x hx => hI.queue x (List.mem_cons_of_mem _ hx), fun v h0 h1 hv => ?_⟩
    rcases hI.done v h0 h1 hv with h | h | h
    ·rcases List.mem_cons.1 h with rfl | h
     ·exact .inr (.inl rfl)
     ·exact .inl h
    ·exact h.elim
    ·exact .inr (.inr h)
   have hlen : (((next n E c)).length : Int) < big := by
    have := List.length_filter_le (fun i => decide (tieOf c i ∈ E)) (knots n)
    have e := knots_len n
    have h8 := hE.2.1
    unfold big; unfold next; omega
   simp only [List.length_cons] at h1
   obtain ⟨f', q', i1, i2, i3, i4, i5, i6⟩ := reach_l1 n E a c hE.2.2.1 ⟨hc.1, hc.2.1⟩ hcc (next n E c) [] f q hlen (fun x hx => (mem_next hE.2.2.1).1 hx) (by omega) hI1
   have hI2 : Inv n E a f' q' (fun _ => False) := by
    refine ⟨i1.len, i1.start, i1.conn, i1.queue, fun v h0 h1 hv => ?_⟩
    rcases i1.done v h0 h1 hv with h | h | h
    ·exact .inl h
    ·refine .inr (.inr (fun w hw => ?_))
     subst h
     exact i2 w ((mem_next hE.2.2.1).2 hw)
    ·exact .inr (.inr h)
   obtain ⟨f2, j1, j2⟩ := ih f' q' (by omega) (by omega) hI2
   refine ⟨f2, ?_, j2⟩
   have g1 : ((c :: q).length : Int) > 0 := by rw [List.length_cons]; omega
   have g2 : (0 : Int) < ((c :: q).length : Int) := g1
   have g3 : (1 : Int) ≤ ((c :: q).length : Int) := by omega
   have g4 : rd (c :: q) 0 = c := rfl
   have g5 : (c :: q).drop ((1 : Int)).toNat = q := rfl
   refine Ev.step (fun k => by simp only [spec_WayReach.l0, g1, g2, g3, g4, g5, if_true] <;> exact rfl) ?_
   refine Ev.bind (next_ev n c E hE) ?_
   exact i6 f2 j1
theorem reach_ev (n : Int) (E : List S53) (a : Int) (hE : ok n E) (h0 : 0 ≤ a) (h1 : a < n) :
  ∃ f, Ev (fun k => spec_WayReach.f k n E a) f ∧ (f.length : Int) = n ∧ ∀ v, 0 ≤ v → v < n → (rdOf false f v = true ↔ Conn E a v) := by
 have h8 := hE.2.1
 have hb : (E.length : Int) < big := by have := ok_len hE; unfold big; omega
 have hn : n.toNat ≤ 281474976710656 := by omega
 have hl : ((List.replicate n.toNat false).length : Int) = n := by rw [List.length_replicate]; omega
 have hcnt : cnt (List.replicate n.toNat false) = n.toNat := by simp [cnt]
 have hrep : ∀ v : Int, rdOf false (List.replicate n.toNat false) v = false := fun v => by
  unfold rdOf
  rw [List.getD_eq_getElem?_getD, List.getElem?_replicate]
  split <;> rfl
 have hs := cnt_set (f := List.replicate n.toNat false) (i := a.toNat) (hrep a) (by omega)
 have hset : ∀ v, 0 ≤ v → rdOf false ((List.replicate n.toNat false).set a.toNat true) v = if a = v then true else false := fun v hv => by
  rw [rdOf_set h0 (by omega) hv, hrep]
 have hI : Inv n E a ((List.replicate n.toNat false).set a.toNat true) [a] (fun _ => False) := by
  refine ⟨by rw [List.length_set]; exact hl, by rw [hset a h0]; simp, ?_, ?_, ?_⟩
  ·intro v v0 v1 hv
   rw [hset v v0] at hv
   by_cases e : a = v
   ·subst e; exact .refl _
   ·rw [if_neg e] at hv; simp at hv
  ·intro x hx
   rw [List.mem_singleton] at hx
   subst hx
   exact ⟨h0, h1, by rw [hset _ h0]; simp⟩
  ·intro v v0 v1 hv
   rw [hset v v0] at hv
   by_cases e : a = v
   ·subst e; exact .inl (by simp)
   ·rw [if_neg e] at hv; simp at hv
 obtain ⟨f, r1, r2⟩ := reach_l0 n E a hE 100 _ [a] (by simp only [List.length_singleton]; omega) (by omega) hI
 refine ⟨f, ?_, r2⟩
 unfold spec_WayReach.f
 refine Ev.bind (l1Knot_ev n a E hb) ?_
 have c : ok n E ∧ 0 ≤ a ∧ a < n := ⟨hE, h0, h1⟩
 have l2 : a < ((List.replicate n.toNat false).length : Int) := by omega
 simp only [c, and_self, decide_true, if_true, hE.1, hn, Option.bind_some, h0, l2]
 exact r1
end Go.Proofs.Ytddadihobjinhaa.P
namespace Go.Proofs.Ytddadihobjinhaa.G
open Go.RowKit Go.Proofs.YtddadihobjinhaaW.PrintWords
theorem rd_set {f : List Int} {u v x : Int} (hu : 0 ≤ u) (hu2 : u < (f.length : Int)) (hv : 0 ≤ v) : rd (f.set u.toNat x) v = if u = v then x else rd f v := by
  unfold rd
  rw [List.getD_eq_getElem?_getD, List.getD_eq_getElem?_getD, List.getElem?_set]
  by_cases c : u = v
  · subst c
    rw [if_pos rfl, if_pos (by omega), if_pos rfl]; rfl
  · rw [if_neg (by omega), if_neg c]
def tot (f : List Int) : Nat := (f.map Int.toNat).sum
theorem tot_set : ∀ {f : List Int} {i : Nat} {x : Int}, i < f.length → 0 ≤ x → 0 ≤ f.getD i 0 → (tot (f.set i x) : Int) = tot f - f.getD i 0 + x
  | [], i, _, h, _, _ => absurd h (Nat.not_lt_zero _)
  | b :: f, 0, x, h, hx, hb => by
    have hb' : 0 ≤ b := hb
    simp [tot]
    omega
  | b :: f, i + 1, x, h, hx, hb => by
    have ih := tot_set (f := f) (i := i) (x := x) (by simpa using h) hx (by simpa using hb)
    rw [List.set_cons_succ]
    simp [tot] at ih ⊢
    omega
structure Lab (n : Int) (E : List Tie) (f : List Int) : Prop where
  len : (f.length : Int) = n
  low : ∀ v, 0 ≤ v → v < n → 0 ≤ rd f v ∧ rd f v ≤ v
  conn : ∀ v, 0 ≤ v → v < n → Conn E v (rd f v)
structure Parts (n : Int) (E : List Tie) (f : List Int) : Prop where
  len : (f.length : Int) = n
  low : ∀ v, 0 ≤ v → v < n → 0 ≤ rd f v ∧ rd f v ≤ v
  conn : ∀ v, 0 ≤ v → v < n → Conn E v (rd f v)
  same : ∀ u v, 0 ≤ u → u < n → 0 ≤ v → v < n → Conn E u v → rd f u = rd f v
theorem Parts.iff {n : Int} {E : List Tie} {f : List Int} (h : Parts n E f) {u v : Int} (hu : 0 ≤ u ∧ u < n) (hv : 0 ≤ v ∧ v < n) : rd f u = rd f v ↔ Conn E u v :=
  ⟨fun e => (h.conn u hu.1 hu.2).trans (e ▸ (h.conn v hv.1 hv.2).symm), h.same u v hu.1 hu.2 hv.1 hv.2⟩
theorem Parts.least {n : Int} {E : List Tie} {f : List Int} (h : Parts n E f) {u v : Int} (hu : 0 ≤ u ∧ u < n) (hv : 0 ≤ v ∧ v < n) (hc : Conn E u v) : rd f u ≤ v := by
  rw [h.same u v hu.1 hu.2 hv.1 hv.2 hc]
  exact (h.low v hv.1 hv.2).2
theorem Parts.unique {n : Int} {E : List Tie} {f g : List Int} (h : Parts n E f) (k : Parts n E g) : f = g := by
  apply List.ext_getElem?
  intro i
  have hf := h.len
  have hg := k.len
  by_cases hi : i < f.length
  · have e : rd f i = rd g i := by
      have h0 : (0 : Int) ≤ (i : Int) := by omega
      have h1 : (i : Int) < n := by omega
      have a := h.low i h0 h1
      have b := k.low i h0 h1
      have c := h.least ⟨h0, h1⟩ ⟨b.1, by omega⟩ (k.conn i h0 h1)
      have d := k.least ⟨h0, h1⟩ ⟨a.1, by omega⟩ (h.conn i h0 h1)
      omega
    unfold rd at e
    rw [List.getD_eq_getElem?_getD, List.getD_eq_getElem?_getD, Int.toNat_natCast, List.getElem?_eq_getElem hi, List.getElem?_eq_getElem (by omega)] at e
    rw [List.getElem?_eq_getElem hi, List.getElem?_eq_getElem (by omega)]
    simpa using e
  · rw [List.getElem?_eq_none (by omega), List.getElem?_eq_none (by omega)]
theorem Lab.parts {n : Int} {E : List Tie} {f : List Int} (h : Lab n E f) (hE : ∀ t ∈ E, inr n t) (he : ∀ t ∈ E, rd f t.f0 = rd f t.f1) : Parts n E f := by
  refine ⟨h.len, h.low, h.conn, fun u v hu hu1 hv hv1 hc => ?_⟩
  refine hc.closed (fun x => rd f u = rd f x) rfl (fun x y hx ht => ?_)
  have hr := hE _ ht
  have e := he _ ht
  rw [hx]
  unfold tieOf at e
  by_cases c : x < y
  · rw [if_pos c] at e; exact e
  · rw [if_neg c] at e; exact e.symm
end Go.Proofs.Ytddadihobjinhaa.G
namespace Go.Proofs.Ytddadihobjinhaa.P
open Go.RowKit Go.Proofs.YtddadihobjinhaaW.PrintWords Go.Proofs.Ytddadihobjinhaa.G
theorem mn_eq (a b : Int) : mn a b = if b < a then b else a := rfl
theorem parts_l2 (n : Int) (E : List S53) (hE : ok n E) : ∀ (suf p : List S53) (f : List Int) (b : Bool), p ++ suf = E → Lab n E f →
    ∃ f' b', Lab n E f' ∧ tot f' ≤ tot f ∧ (b' = false → b = false ∧ f' = f ∧ ∀ t ∈ suf, rd f t.f0 = rd f t.f1) ∧ (b' = true → b = true ∨ tot f' < tot f) ∧
      ∀ r, Ev (fun k => impl_Net_parts.l1 k f' b' n E) r → Ev (fun k => impl_Net_parts.l2 k f b (p ++ suf) ((p ++ suf).length : Int) (p.length : Int) n E) r := by
  intro suf
  have hEb : (E.length : Int) < big := by have := ok_len hE; unfold big; omega
  induction suf with
  | nil =>
    intro p f b he hL
    refine ⟨f, b, hL, Nat.le_refl _, fun h => ⟨h, rfl, by simp⟩, fun h => .inl h, fun r hr => ?_⟩
    refine Ev.step (fun k => by simp only [impl_Net_parts.l2, nlt_end, if_false] <;> exact rfl) hr
  | cons t suf ih =>
    intro p f b he hL
    have hp : (p.length : Int) < big := len_mid (by rw [he]; exact hEb)
    have ht : t ∈ E := by rw [← he]; simp
    have hr := hE.2.2.1 t ht
    unfold inr at hr
    have b1 : 0 ≤ t.f0 := hr.1
    have b2 : t.f0 < (f.length : Int) := by rw [hL.len]; omega
    have b3 : 0 ≤ t.f1 := by omega
    have b4 : t.f1 < (f.length : Int) := by rw [hL.len]; omega
    by_cases c : rd f t.f0 = rd f t.f1
    · obtain ⟨f', b', h1, h2, h3, h4, h5⟩ := ih (p ++ [t]) f b (by rw [← he]; simp) hL
      refine ⟨f', b', h1, h2, fun e => ?_, h4, fun r hr => ?_⟩
      · obtain ⟨x, y, z⟩ := h3 e
        refine ⟨x, y, fun s hs => ?_⟩
        rcases List.mem_cons.1 hs with rfl | hs
        · exact c
        · exact z s hs
      · refine Ev.step (fun k => by simp only [impl_Net_parts.l2, lt_mid, nn, if_true, rdC_mid, w_succ (t := t) hp, b1, b2, b3, b4, if_pos c] <;> exact rfl) ?_
        rw [app_one p t suf]
        exact h5 r hr
    · have lo0 := hL.low t.f0 b1 (by omega)
      have lo1 := hL.low t.f1 b3 (by omega)
      have hm : 0 ≤ mn (rd f t.f0) (rd f t.f1) ∧ mn (rd f t.f0) (rd f t.f1) ≤ rd f t.f0 ∧ mn (rd f t.f0) (rd f t.f1) ≤ rd f t.f1 ∧ (mn (rd f t.f0) (rd f t.f1) = rd f t.f0 ∨ mn (rd f t.f0) (rd f t.f1) = rd f t.f1) := by
        rw [mn_eq]; split <;> omega
      generalize hg : mn (rd f t.f0) (rd f t.f1) = m at hm
      have hs : ∀ v, 0 ≤ v → rd ((f.set t.f0.toNat m).set t.f1.toNat m) v = if t.f1 = v then m else if t.f0 = v then m else rd f v := fun v hv => by
        rw [rd_set b3 (by rw [List.length_set]; exact b4) hv, rd_set b1 b2 hv]
      have hconn01 : Conn E t.f0 t.f1 := Conn.tie ht hr.2.1
      have hc0 := hL.conn t.f0 b1 (by omega)
      have hc1 := hL.conn t.f1 b3 (by omega)
      have hcm : Conn E t.f0 m ∧ Conn E t.f1 m := by
        rcases hm.2.2.2 with e | e
        · rw [e]; exact ⟨hc0, hconn01.symm.trans hc0⟩
        · rw [e]; exact ⟨hconn01.trans hc1, hc1⟩
      have hL' : Lab n E ((f.set t.f0.toNat m).set t.f1.toNat m) := by
        refine ⟨by rw [List.length_set, List.length_set]; exact hL.len, fun v h0 h1 => ?_, fun v h0 h1 => ?_⟩
        · rw [hs v h0]
          have := hL.low v h0 h1
          split
          · subst_vars; omega
          · split
            · subst_vars; omega
            · exact this
        · rw [hs v h0]
          split
          · subst_vars; exact hcm.2
          · split
            · subst_vars; exact hcm.1
            · exact hL.conn v h0 h1
      have t0 : (tot (f.set t.f0.toNat m) : Int) = tot f - rd f t.f0 + m := tot_set (by omega) hm.1 lo0.1
      have e1 : (f.set t.f0.toNat m).getD t.f1.toNat 0 = rd f t.f1 := by
        have := rd_set (f := f) (u := t.f0) (v := t.f1) (x := m) b1 b2 b3
        rw [if_neg (by omega)] at this
        exact this
      have t1 : (tot ((f.set t.f0.toNat m).set t.f1.toNat m) : Int) = tot (f.set t.f0.toNat m) - rd f t.f1 + m := by
        have := tot_set (f := f.set t.f0.toNat m) (i := t.f1.toNat) (x := m) (by rw [List.length_set]; omega) hm.1 (by rw [e1]; exact lo1.1)
        rw [e1] at this
        exact this
      have hlt : tot ((f.set t.f0.toNat m).set t.f1.toNat m) < tot f := by omega
      obtain ⟨f', b', h1, h2, h3, h4, h5⟩ := ih (p ++ [t]) ((f.set t.f0.toNat m).set t.f1.toNat m) true (by rw [← he]; simp) hL'
      refine ⟨f', b', h1, by omega, fun e => ?_, fun _ => .inr (by omega), fun r hr => ?_⟩
      · have := (h3 e).1
        simp at this
      · refine Ev.step (fun k => by simp only [impl_Net_parts.l2, lt_mid, nn, if_true, rdC_mid, w_succ (t := t) hp, b1, b2, b3, b4, if_neg c, hg] <;> exact rfl) ?_
        rw [app_one p t suf]
        exact h5 r hr
theorem parts_l1 (n : Int) (E : List S53) (hE : ok n E) : ∀ (m : Nat) (f : List Int), tot f ≤ m → Lab n E f → ∃ f', Ev (fun k => impl_Net_parts.l1 k f true n E) f' ∧ Parts n E f' := by
  intro m
  induction m with
  | zero =>
    intro f hm hL
    obtain ⟨f', b', h1, h2, h3, h4, h5⟩ := parts_l2 n E hE E [] f false rfl hL
    cases b' with
    | true => rcases h4 rfl with h | h
              · simp at h
              · omega
    | false =>
      obtain ⟨_, rfl, h⟩ := h3 rfl
      refine ⟨f', ?_, h1.parts hE.2.2.1 h⟩
      refine Ev.step (fun k => by simp only [impl_Net_parts.l1, if_true] <;> exact rfl) ?_
      refine h5 f' ?_
      refine Ev.step (fun k => by simp only [impl_Net_parts.l1, Bool.false_eq_true, if_false] <;> exact rfl) ?_
      exact Ev.val rfl
  | succ m ih =>
    intro f hm hL
    obtain ⟨f', b', h1, h2, h3, h4, h5⟩ := parts_l2 n E hE E [] f false rfl hL
    cases b' with
    | true =>
      rcases h4 rfl with h | h
      · simp at h
      · obtain ⟨f2, e2, p2⟩ := ih f' (by omega) h1
        refine ⟨f2, ?_, p2⟩
        refine Ev.step (fun k => by simp only [impl_Net_parts.l1, if_true] <;> exact rfl) ?_
        exact h5 f2 e2
    | false =>
      obtain ⟨_, rfl, h⟩ := h3 rfl
      refine ⟨f', ?_, h1.parts hE.2.2.1 h⟩
      refine Ev.step (fun k => by simp only [impl_Net_parts.l1, if_true] <;> exact rfl) ?_
      refine h5 f' ?_
      refine Ev.step (fun k => by simp only [impl_Net_parts.l1, Bool.false_eq_true, if_false] <;> exact rfl) ?_
      exact Ev.val rfl
theorem rd_knots {n v : Int} (h0 : 0 ≤ v) (h1 : v < n) : rd (knots n) v = v := by
  unfold rd knots
  rw [List.getD_eq_getElem?_getD, List.getElem?_map, List.getElem?_range (by omega)]
  simp [Int.toNat_of_nonneg h0]
theorem parts_l0 (n : Int) (E : List S53) (h8 : n ≤ 8) : ∀ (d : Nat) (i : Int), 0 ≤ i → i + d = n → ∀ r, Ev (fun k => impl_Net_parts.l1 k (knots n) true n E) r →
    Ev (fun k => impl_Net_parts.l0 k (knots i) n i n E) r := by
  intro d
  induction d with
  | zero =>
    intro i h0 hi r hr
    have hi' : i = n := by omega
    subst hi'
    have c : ¬ i < i := by omega
    exact Ev.step (fun k => by simp only [impl_Net_parts.l0, c, if_false] <;> exact rfl) hr
  | succ d ih =>
    intro i h0 hi r hr
    have c : i < n := by omega
    have w : wrap64 (i + 1) = i + 1 := w64 (by omega) (by omega)
    have hl : (knots i).length < 17592186044416 := by rw [knots_len]; omega
    refine Ev.step (fun k => by simp only [impl_Net_parts.l0, c, if_true, w, hl, ← knots_succ h0] <;> exact rfl) ?_
    exact ih (i + 1) (by omega) (by omega) r hr
theorem parts_ev (n : Int) (E : List S53) (hE : ok n E) : ∃ f, Ev (fun k => impl_Net_parts.f k n E) f ∧ Parts n E f := by
  have hL : Lab n E (knots n) := by
    have h0 := hE.1
    refine ⟨by rw [knots_len]; omega, fun v h0 h1 => ?_, fun v h0 h1 => ?_⟩
    · rw [rd_knots h0 h1]; exact ⟨h0, Int.le_refl _⟩
    · rw [rd_knots h0 h1]; exact .refl _
  obtain ⟨f, h1, h2⟩ := parts_l1 n E hE _ (knots n) (Nat.le_refl _) hL
  refine ⟨f, ?_, h2⟩
  unfold impl_Net_parts.f
  have h0 := hE.1
  exact parts_l0 n E hE.2.1 n.toNat 0 (Int.le_refl 0) (by omega) f h1
end Go.Proofs.Ytddadihobjinhaa.P
namespace Go.Proofs.Ytddadihobjinhaa.G
open Classical in
noncomputable def treeOn : List Tie → List Tie → List Tie
 | X, [] => X
 | X, t :: r => if Conn X t.f0 t.f1 then treeOn X r else treeOn (X ++ [t]) r
theorem treeOn_sub : ∀ (r X Y : List Tie), X.Sublist Y → (treeOn X r).Sublist (Y ++ r)
 | [], X, Y, h => by simpa [treeOn] using h
 | s :: r, X, Y, h => by
  have e : Y ++ s :: r = (Y ++ [s]) ++ r := by simp
  unfold treeOn
  rw [e]
  split
  ·exact treeOn_sub r X (Y ++ [s]) (h.trans (List.sublist_append_left _ _))
  ·exact treeOn_sub r (X ++ [s]) (Y ++ [s]) (h.append (List.Sublist.refl _))
theorem treeOn_keeps : ∀ (r X : List Tie) (t : Tie), t ∈ X → t ∈ treeOn X r
 | [], X, t, h => h
 | s :: r, X, t, h => by
  unfold treeOn
  split
  ·exact treeOn_keeps r X t h
  ·exact treeOn_keeps r (X ++ [s]) t (List.mem_append_left _ h)
noncomputable def tree (E : List Tie) : List Tie := treeOn [] E
theorem tree_sub (E : List Tie) : (tree E).Sublist E := by
 have := treeOn_sub E [] [] (List.Sublist.refl _)
 simpa [tree] using this
theorem treeOn_conn {n : Int} : ∀ (r X : List Tie), (∀ t ∈ r, inr n t) → ∀ t ∈ r, Conn (treeOn X r) t.f0 t.f1
 | [], X, _, t, h => by simp at h
 | s :: r, X, hr, t, h => by
  unfold treeOn
  split
  ·rename_i c
   rcases List.mem_cons.1 h with rfl | h
   ·exact c.mono (treeOn_keeps r X)
   ·exact treeOn_conn r X (fun x hx => hr x (List.mem_cons_of_mem _ hx)) t h
  ·rcases List.mem_cons.1 h with rfl | h
   ·exact Conn.tie (treeOn_keeps r _ _ (by simp)) (hr t List.mem_cons_self).2.1
   ·exact treeOn_conn r (X ++ [s]) (fun x hx => hr x (List.mem_cons_of_mem _ hx)) t h
theorem conn_of {E F : List Tie} (h : ∀ t ∈ E, Conn F t.f0 t.f1) (hE : ∀ t ∈ E, t.f0 < t.f1) {a b : Int} (k : Conn E a b) : Conn F a b := by
 induction k with
 | refl => exact .refl _
 | @step x y hx ht ih =>
  refine ih.trans ?_
  have q := h _ ht
  unfold tieOf at q ht
  by_cases c : x < y
  ·simpa [c] using q
  ·simp only [if_neg c] at q
   exact q.symm
theorem tree_conn {n : Int} {E : List Tie} (hE : ∀ t ∈ E, inr n t) (a b : Int) : Conn (tree E) a b ↔ Conn E a b :=
 ⟨fun h => h.mono (fun t ht => (tree_sub E).subset ht), fun h => conn_of (treeOn_conn E [] hE) (fun t ht => (hE t ht).2.1) h⟩
end Go.Proofs.Ytddadihobjinhaa.G
namespace Go.Proofs.Ytddadihobjinhaa.G
open Go.RowKit Go.Proofs.YtddadihobjinhaaW.PrintWords
def proper (E : List Tie) (c : Int → Bool) : Prop := ∀ t ∈ E, c t.f0 ≠ c t.f1
theorem proper_tie {E : List Tie} {c : Int → Bool} {a b : Int} (h : proper E c) (ht : tieOf a b ∈ E) : c a ≠ c b := by
 have := h _ ht
 unfold tieOf at this
 split at this
 ·exact this
 ·exact this.symm
theorem proper_walk {E : List Tie} {c : Int → Bool} (hc : proper E c) {b : Int} : ∀ (r : List Int) (v : Int), (v :: r).getLast? = some b → (∀ t ∈ ties (v :: r), t ∈ E) → (c v = c b ↔ (v :: r).length % 2 = 1)
 | [], v, h, _ => by
  have : v = b := by simpa using h
  simp [this]
 | w :: r, v, h, ht => by
  rw [List.getLast?_cons_cons] at h
  have ih := proper_walk hc r w h (fun t q => ht t (by simp [ties, q]))
  have h1 := proper_tie hc (ht _ (by simp [ties]) : tieOf v w ∈ E)
  have e : (v :: w :: r).length = (w :: r).length + 1 := rfl
  rw [e]
  by_cases q : (w :: r).length % 2 = 1
  ·have e2 := ih.2 q
   rw [← e2]
   constructor
   ·intro k; exact absurd k h1
   ·intro k; omega
  ·have e2 : c w ≠ c b := fun k => q (ih.1 k)
   constructor
   ·intro k; omega
   ·intro _
    revert h1 e2
    cases c v <;> cases c w <;> cases c b <;> simp
theorem proper_way {E : List Tie} {c : Int → Bool} (hc : proper E c) {a b : Int} {p : List Int} (h : isWay E a b p) : c a = c b ↔ p.length % 2 = 1 := by
 cases p with
 | nil => have := h.head; simp at this
 | cons x r =>
  have : x = a := by have := h.head; simpa using this
  subst this
  exact proper_walk hc r x h.last h.ties
open Classical in
theorem treeOn_col {n : Int} : ∀ (r X : List Tie), (∀ t ∈ r, inr n t) → (∀ t ∈ X, inr n t) → (∃ c, proper X c) → ∃ c, proper (treeOn X r) c
 | [], X, _, _, h => h
 | s :: r, X, hr, hX, ⟨c, hc⟩ => by
  have hr' := fun t ht => hr t (List.mem_cons_of_mem _ ht)
  unfold treeOn
  split
  ·exact treeOn_col r X hr' hX ⟨c, hc⟩
  ·rename_i q
   refine treeOn_col r (X ++ [s]) hr' (fun t ht => by
    rcases List.mem_append.1 ht with h | h
    ·exact hX t h
    ·rw [List.mem_singleton] at h; subst h; exact hr t (by simp)) ?_
   by_cases e : c s.f0 = c s.f1
   ·refine ⟨fun v => if Conn X s.f1 v then !c v else c v, fun t ht => ?_⟩
    rcases List.mem_append.1 ht with ht | ht
    ·have ct := hc t ht
     have tt := Conn.tie ht (hX t ht).2.1
     have same : Conn X s.f1 t.f0 ↔ Conn X s.f1 t.f1 := by
      exact ⟨fun x => x.trans tt, fun x => x.trans tt.symm⟩
     show (if Conn X s.f1 t.f0 then !c t.f0 else c t.f0) ≠ (if Conn X s.f1 t.f1 then !c t.f1 else c t.f1)
     by_cases z : Conn X s.f1 t.f0
     ·rw [if_pos z, if_pos (same.1 z)]
      revert ct; cases c t.f0 <;> cases c t.f1 <;> simp
     ·rw [if_neg z, if_neg (fun k => z (same.2 k))]; exact ct
    ·rw [List.mem_singleton] at ht
     subst ht
     show (if Conn X t.f1 t.f0 then !c t.f0 else c t.f0) ≠ (if Conn X t.f1 t.f1 then !c t.f1 else c t.f1)
     rw [if_neg (fun k => q k.symm), if_pos (.refl _), e]
     cases c t.f1 <;> simp
   ·refine ⟨c, fun t ht => ?_⟩
    rcases List.mem_append.1 ht with ht | ht
    ·exact hc t ht
    ·rw [List.mem_singleton] at ht
     subst ht; exact e
theorem tree_col {n : Int} {E : List Tie} (hE : ∀ t ∈ E, inr n t) : ∃ c, proper (tree E) c := treeOn_col E [] hE (by simp) ⟨fun _ => false, fun t ht => by simp at ht⟩
def stepsTo (E : List Tie) (b : Int) : Nat → Int → Prop
 | 0, v => v = b
 | k + 1, v => ∃ w, tieOf v w ∈ E ∧ stepsTo E b k w
theorem least_of {P : Nat → Prop} (h : ∃ k, P k) : ∃ k, P k ∧ ∀ j, P j → k ≤ j := by
 obtain ⟨k, hk⟩ := h
 induction k using Nat.strongRecOn with
 | _ k ih =>
  by_cases c : ∃ j, j < k ∧ P j
  ·obtain ⟨j, hj, hp⟩ := c
   exact ih j hj hp
  ·refine ⟨k, hk, fun j hj => ?_⟩
   rcases Nat.lt_or_ge j k with h | h
   ·exact absurd ⟨j, h, hj⟩ c
   ·exact h
open Classical in
noncomputable def farOf (E : List Tie) (b v : Int) : Int := if h : ∃ k, stepsTo E b k v then ((Classical.choose (least_of h) : Nat) : Int) else -1
theorem farOf_le {E : List Tie} {b v : Int} {k : Nat} (h : stepsTo E b k v) : 0 ≤ farOf E b v ∧ farOf E b v ≤ k := by
 classical
 unfold farOf
 rw [dif_pos ⟨k, h⟩]
 have := (Classical.choose_spec (least_of (⟨k, h⟩ : ∃ k, stepsTo E b k v))).2 k h
 omega
theorem farOf_is {E : List Tie} {b v : Int} (h : 0 ≤ farOf E b v) : stepsTo E b (farOf E b v).toNat v := by
 classical
 unfold farOf at *
 by_cases c : ∃ k, stepsTo E b k v
 ·rw [dif_pos c] at *
  exact (Classical.choose_spec (least_of c)).1
 ·rw [dif_neg c] at h; omega
theorem far_ex (n : Int) (E : List Tie) (b : Int) : Far n E b (farOf E b) where
 zero := by have := farOf_le (E := E) (b := b) (v := b) (k := 0) rfl; omega
 only := fun v _ _ h => by
  have := farOf_is (E := E) (b := b) (v := v) (by omega)
  rw [h] at this; exact this
 down := fun v _ _ h => by
  have h1 := farOf_is (E := E) (b := b) (v := v) (by omega)
  obtain ⟨k, e⟩ : ∃ k : Nat, (farOf E b v).toNat = k + 1 := ⟨(farOf E b v).toNat - 1, by omega⟩
  rw [e] at h1
  obtain ⟨w, ht, hw⟩ := h1
  have h2 := farOf_le hw
  have h3 := farOf_is h2.1
  have h4 := farOf_le (k := (farOf E b w).toNat + 1) (v := v) ⟨w, ht, h3⟩
  exact ⟨w, ht, by omega⟩
 near := fun v w ht h => by
  have h1 := farOf_is h
  have h2 := farOf_le (k := (farOf E b v).toNat + 1) (v := w) ⟨v, by rw [tieOf_comm]; exact ht, h1⟩
  omega
 lo := fun v _ _ => by
  unfold farOf
  split <;> omega
def found (n : Int) (E : List Tie) (a b : Int) : List Int × Bool := match allG n E a b with
 | [] => ([], false)
 | p :: _ => (p, true)
theorem found_far {n a b : Int} {E : List Tie} {f : Int → Int} (F : Far n E b f) (h8 : n ≤ 8) (hE : ∀ t ∈ E, inr n t) (ha : 0 ≤ a ∧ a < n) : found n E a b = if 0 ≤ f a then (firstWay n E f a, true) else ([], false) := by
 unfold found
 by_cases c : 0 ≤ f a
 ·obtain ⟨r, e⟩ := far_all F h8 hE ha c
  rw [e, if_pos c]
 ·rw [far_none F h8 hE ha c, if_neg c]
theorem found_way {n a b : Int} {E : List Tie} (h8 : n ≤ 8) (hE : ∀ t ∈ E, inr n t) (ha : 0 ≤ a ∧ a < n) (h : Conn E a b) : ∃ p r, allG n E a b = p :: r ∧ found n E a b = (p, true) ∧ isWay E a b p := by
 have F := far_ex n E b
 have c := (F.conn hE ha).2 h
 obtain ⟨r, e⟩ := far_all F h8 hE ha c
 refine ⟨_, r, e, ?_, (F.first hE ha c).1⟩
 unfold found
 rw [e]
end Go.Proofs.Ytddadihobjinhaa.G
namespace Go.Proofs.Ytddadihobjinhaa.P
open Go.RowKit Go.Proofs.YtddadihobjinhaaW.PrintWords Go.Proofs.Ytddadihobjinhaa.G
def cntN (f : List Int) : Nat := (f.filter fun x => decide (x < 0)).length
theorem cntN_set : ∀ {f : List Int} {i : Nat} {x : Int}, i < f.length → f.getD i 0 < 0 → 0 ≤ x → cntN (f.set i x) + 1 = cntN f
 | [], i, _, h, _, _ => absurd h (Nat.not_lt_zero _)
 | b :: f, 0, x, _, h, hx => by
  have h : b < 0 := h
  have hx : ¬ x < 0 := by omega
  simp [cntN, h, hx]
 | b :: f, i + 1, x, hl, h, hx => by
  have ih := cntN_set (f := f) (i := i) (x := x) (by simpa using hl) (by simpa using h) hx
  unfold cntN at *
  rw [List.set_cons_succ, List.filter_cons, List.filter_cons]
  by_cases c : b < 0
  ·simp only [c, decide_true, if_true, List.length_cons]; omega
  ·simp only [c, decide_false, Bool.false_eq_true, if_false]; exact ih
structure FI (n : Int) (E : List Tie) (b : Int) (f q : List Int) (d : Int) (busy : Int → Prop) : Prop where
 base : 0 ≤ b
 len : (f.length : Int) = n
 zero : rd f b = 0
 only : ∀ v, 0 ≤ v → v < n → rd f v = 0 → v = b
 lo : ∀ v, 0 ≤ v → v < n → -1 ≤ rd f v
 hi : ∀ v, 0 ≤ v → v < n → rd f v ≤ d + 1
 bd : ∀ v, 0 ≤ v → v < n → rd f v + cntN f + 1 ≤ n
 down : ∀ v, 0 ≤ v → v < n → 0 < rd f v → ∃ w, tieOf v w ∈ E ∧ rd f w = rd f v - 1
 pos : 0 ≤ d
 queue : ∀ x ∈ q, 0 ≤ x ∧ x < n ∧ d ≤ rd f x
 sorted : q.Pairwise fun x y => rd f x ≤ rd f y
 done : ∀ v, 0 ≤ v → v < n → 0 ≤ rd f v → v ∈ q ∨ busy v ∨ ∀ w, tieOf v w ∈ E → 0 ≤ rd f w ∧ rd f w ≤ rd f v + 1
theorem FI.see {n : Int} {E : List Tie} {b : Int} {f q : List Int} {d c t : Int} (hE : ∀ t ∈ E, inr n t) (h : FI n E b f q d (fun v => v = c)) (hc : 0 ≤ c ∧ c < n) (hcd : rd f c = d) (ht : tieOf c t ∈ E) (hn : rd f t < 0) :
  FI n E b (f.set t.toNat (d + 1)) (q ++ [t]) d (fun v => v = c) ∧ cntN (f.set t.toNat (d + 1)) + 1 = cntN f ∧ (∀ x, 0 ≤ x → 0 ≤ rd f x → rd (f.set t.toNat (d + 1)) x = rd f x) ∧ rd (f.set t.toNat (d + 1)) t = d + 1 := by
 have hr := (tieOf_ends (hE _ ht)).2.1
 have hl := h.len
 have rs : ∀ x, 0 ≤ x → rd (f.set t.toNat (d + 1)) x = if t = x then d + 1 else rd f x := fun x hx => rd_set hr.1 (by omega) hx
 have cs : cntN (f.set t.toNat (d + 1)) + 1 = cntN f := cntN_set (by omega) (by unfold rd at hn; exact hn) (by have := h.pos; omega)
 have keep : ∀ x, 0 ≤ x → 0 ≤ rd f x → rd (f.set t.toNat (d + 1)) x = rd f x := fun x hx h0 => by
  rw [rs x hx, if_neg (fun e => by subst e; omega)]
 have b0 : 0 ≤ b := h.base
 have bt : b ≠ t := fun e => by have := h.zero; rw [e] at this; omega
 refine ⟨⟨h.base, by simp; exact hl, ?_, ?_, ?_, ?_, ?_, ?_, h.pos, ?_, ?_, ?_⟩, cs, keep, by rw [rs t hr.1, if_pos rfl]⟩
 ·rw [rs b b0, if_neg (fun e => bt e.symm)]; exact h.zero
 ·intro v v0 v1 e
  rw [rs v v0] at e
  split at e
  ·have := h.pos; omega
  ·exact h.only v v0 v1 e
 ·intro v v0 v1
  rw [rs v v0]
  split
  ·have := h.pos; omega
  ·exact h.lo v v0 v1
 ·intro v v0 v1
  rw [rs v v0]
  split
  ·omega
  ·exact h.hi v v0 v1
 ·intro v v0 v1
  rw [rs v v0]
  split
  ·have := h.bd c hc.1 hc.2; omega
  ·have := h.bd v v0 v1; omega
 ·intro v v0 v1 e
  rw [rs v v0] at e ⊢
  split at e
  ·rename_i q
   subst q
   refine ⟨c, by rw [tieOf_comm]; exact ht, ?_⟩
   rw [if_pos rfl, keep c hc.1 (by have := h.pos; omega), hcd]; omega
  ·rename_i q
   rw [if_neg q]
   obtain ⟨w, w1, w2⟩ := h.down v v0 v1 e
   exact ⟨w, w1, by rw [keep w (tieOf_ends (hE _ w1)).2.1.1 (by omega), w2]⟩
 ·intro x hx
  rcases List.mem_append.1 hx with hx | hx
  ·obtain ⟨a1, a2, a3⟩ := h.queue x hx
   exact ⟨a1, a2, by rw [keep x a1 (by have := h.pos; omega)]; exact a3⟩
  ·rw [List.mem_singleton] at hx
   subst hx
   exact ⟨hr.1, hr.2, by rw [rs x hr.1, if_pos rfl]; omega⟩
 ·rw [List.pairwise_append]
  refine ⟨?_, by simp, ?_⟩
  ·refine List.Pairwise.imp_of_mem ?_ h.sorted
   intro x y hx hy e
   obtain ⟨a1, a2, a3⟩ := h.queue x hx
   obtain ⟨b1, b2, b3⟩ := h.queue y hy
   have := h.pos
   rw [keep x a1 (by omega), keep y b1 (by omega)]; exact e
  ·intro x hx y hy
   rw [List.mem_singleton] at hy
   subst hy
   obtain ⟨a1, a2, a3⟩ := h.queue x hx
   have := h.pos
   have := h.hi x a1 a2
   rw [keep x a1 (by omega), rs y hr.1, if_pos rfl]; omega
 ·intro v v0 v1 e
  by_cases q : t = v
  ·subst q; exact .inl (by simp)
  ·rw [rs v v0, if_neg q] at e ⊢
   rcases h.done v v0 v1 e with k | k | k
   ·exact .inl (by simp [k])
   ·exact .inr (.inl k)
   ·refine .inr (.inr fun w hw => ?_)
    have := k w hw
    rw [keep w (tieOf_ends (hE _ hw)).2.1.1 this.1]; exact this
theorem far_l2 (n : Int) (E : List S53) (b c d : Int) (hE : ∀ t ∈ E, inr n t) (h8 : n ≤ 8) (hc : 0 ≤ c ∧ c < n) : ∀ (suf p f q : List Int), ((p ++ suf).length : Int) < big → (∀ x ∈ suf, tieOf c x ∈ E) → q.length + cntN f ≤ 1000 → rd f c = d → FI n E b f q d (fun v => v = c) →
  ∃ f' q', FI n E b f' q' d (fun v => v = c) ∧ rd f' c = d ∧ (∀ x ∈ suf, 0 ≤ rd f' x) ∧ (∀ x, 0 ≤ x → 0 ≤ rd f x → 0 ≤ rd f' x) ∧ q'.length + cntN f' = q.length + cntN f ∧ cntN f' ≤ cntN f ∧
   ∀ r, Ev (fun k => spec_l2Far.l1 k f' q' n E) r → Ev (fun k => spec_l2Far.l2 k f q c (p ++ suf) (p.length : Int) n E) r := by
 intro suf
 induction suf with
 | nil =>
  intro p f q hb hs hm hcd hI
  exact ⟨f, q, hI, hcd, by simp, fun x _ h => h, rfl, Nat.le_refl _, fun r hr => Ev.step (fun k => by simp only [spec_l2Far.l2, nlt_end, if_false] <;> exact rfl) hr⟩
 | cons t suf ih =>
  intro p f q hb hs hm hcd hI
  have hp : (p.length : Int) < big := len_mid hb
  have htE := hs t (by simp)
  have hr := (tieOf_ends (hE _ htE)).2.1
  have hl := hI.len
  have g0 : 0 ≤ t := hr.1
  have g1 : t < (f.length : Int) := by omega
  have k0 : 0 ≤ c := hc.1
  have k1 : c < (f.length : Int) := by omega
  have ql : q.length < 17592186044416 := by omega
  have hs' : ∀ x ∈ suf, tieOf c x ∈ E := fun x hx => hs x (List.mem_cons_of_mem _ hx)
  have hb' : (((p ++ [t]) ++ suf).length : Int) < big := by rw [← app_one]; exact hb
  by_cases u : rd f t < 0
  ·obtain ⟨s1, s2, s3, s4⟩ := hI.see hE hc hcd htE u
   have bdc := hI.bd c hc.1 hc.2
   have dp := hI.pos
   have wd : wrap64 (rd f c + 1) = d + 1 := by rw [hcd]; exact w64 (by omega) (by omega)
   obtain ⟨f', q', i1, i2, i3, i4, i5, i6, i7⟩ := ih (p ++ [t]) _ (q ++ [t]) hb' hs' (by simp; omega) (by rw [s3 c hc.1 (by omega)]; exact hcd) s1
   refine ⟨f', q', i1, i2, fun x hx => ?_, fun x x0 hx => i4 x x0 (by rw [s3 x x0 hx]; exact hx), by simp at i5; omega, by omega, fun r hr2 => ?_⟩
   ·rcases List.mem_cons.1 hx with rfl | hx
    ·exact i4 x g0 (by rw [s4]; omega)
    ·exact i3 x hx
   ·have := i7 r hr2
    rw [← app_one] at this
    exact Ev.step (fun k => by simp only [spec_l2Far.l2, lt_mid, nn, if_true, rd_mid, if_pos g0, if_pos g1, if_pos u, if_pos k0, if_pos k1, if_pos ql, wd, w_succ (t := t) hp] <;> exact rfl) this
  ·obtain ⟨f', q', i1, i2, i3, i4, i5, i6, i7⟩ := ih (p ++ [t]) f q hb' hs' hm hcd hI
   refine ⟨f', q', i1, i2, fun x hx => ?_, i4, i5, i6, fun r hr2 => ?_⟩
   ·rcases List.mem_cons.1 hx with rfl | hx
    ·exact i4 x g0 (by omega)
    ·exact i3 x hx
   ·have := i7 r hr2
    rw [← app_one] at this
    exact Ev.step (fun k => by simp only [spec_l2Far.l2, lt_mid, nn, if_true, rd_mid, if_pos g0, if_pos g1, if_neg u, w_succ (t := t) hp] <;> exact rfl) this
theorem far_l1 (n : Int) (E : List S53) (b : Int) (hE : ok n E) : ∀ (m : Nat) (f q : List Int) (d : Int), 2 * cntN f + q.length ≤ m → m ≤ 900 → FI n E b f q d (fun _ => False) →
  ∃ f', Ev (fun k => spec_l2Far.l1 k f q n E) f' ∧ (f'.length : Int) = n ∧ (∀ v, 0 ≤ v → v < n → rd f' v ≤ n) ∧ Far n E b (rd f') := by
 intro m
 induction m with
 | zero =>
  intro f q d hm h9 hI
  have e : q = [] := List.eq_nil_of_length_eq_zero (by omega)
  subst e
  have c : ¬ (([] : List Int).length : Int) > 0 := by simp
  refine ⟨f, Ev.step (fun k => by simp only [spec_l2Far.l1, if_neg c] <;> exact rfl) (Ev.val rfl), hI.len, fun v v0 v1 => by have := hI.bd v v0 v1; omega, ?_⟩
  exact ⟨hI.zero, hI.only, hI.down, fun v w ht h0 => by
   have := (tieOf_ends (hE.2.2.1 _ ht)).1
   rcases hI.done v this.1 this.2 h0 with k | k | k
   ·simp at k
   ·exact k.elim
   ·exact k w ht, hI.lo⟩
 | succ m ih =>
  intro f q d hm h9 hI
  cases q with
  | nil =>
   have c : ¬ (([] : List Int).length : Int) > 0 := by simp
   refine ⟨f, Ev.step (fun k => by simp only [spec_l2Far.l1, if_neg c] <;> exact rfl) (Ev.val rfl), hI.len, fun v v0 v1 => by have := hI.bd v v0 v1; omega, ?_⟩
   exact ⟨hI.zero, hI.only, hI.down, fun v w ht h0 => by
    have := (tieOf_ends (hE.2.2.1 _ ht)).1
    rcases hI.done v this.1 this.2 h0 with k | k | k
    ·simp at k
    ·exact k.elim
    ·exact k w ht, hI.lo⟩
  | cons x q =>
   obtain ⟨x0, x1, x2⟩ := hI.queue x (by simp)
   have hs := List.pairwise_cons.1 hI.sorted
   have dp := hI.pos
   have I2 : FI n E b f q (rd f x) (fun v => v = x) := ⟨hI.base, hI.len, hI.zero, hI.only, hI.lo, fun v v0 v1 => by have := hI.hi v v0 v1; omega, hI.bd, hI.down, by omega, fun y hy => ⟨(hI.queue y (by simp [hy])).1, (hI.queue y (by simp [hy])).2.1, hs.1 y hy⟩, hs.2, fun v v0 v1 h0 => by
    rcases hI.done v v0 v1 h0 with k | k | k
    ·rcases List.mem_cons.1 k with k | k
     ·exact .inr (.inl k)
     ·exact .inl k
    ·exact k.elim
    ·exact .inr (.inr k)⟩
   have nl : ((next n E x).length : Int) < big := by
    have := List.length_filter_le (fun i => decide (tieOf x i ∈ E)) (knots n)
    rw [knots_len] at this
    have := hE.2.1
    unfold next big
    omega
   obtain ⟨f', q', i1, i2, i3, i4, i5, i6, i7⟩ := far_l2 n E b x (rd f x) hE.2.2.1 hE.2.1 ⟨x0, x1⟩ (next n E x) [] f q (by simpa using nl) (fun y hy => (mem_next hE.2.2.1).1 hy) (by simp at hm; omega) rfl I2
   have I3 : FI n E b f' q' (rd f x) (fun _ => False) := ⟨i1.base, i1.len, i1.zero, i1.only, i1.lo, i1.hi, i1.bd, i1.down, i1.pos, i1.queue, i1.sorted, fun v v0 v1 h0 => by
    rcases i1.done v v0 v1 h0 with k | k | k
    ·exact .inl k
    ·subst k
     refine .inr (.inr fun w hw => ?_)
     have wr := (tieOf_ends (hE.2.2.1 _ hw)).2.1
     exact ⟨i3 w ((mem_next hE.2.2.1).2 hw), by have := i1.hi w wr.1 wr.2; omega⟩
    ·exact .inr (.inr k)⟩
   obtain ⟨f2, e1, e2, e3, e4⟩ := ih f' q' (rd f x) (by simp at hm; omega) (by omega) I3
   refine ⟨f2, ?_, e2, e3, e4⟩
   have c1 : ((x :: q).length : Int) > 0 := by rw [List.length_cons]; omega
   have c2 : 0 < ((x :: q).length : Int) := c1
   have c3 : 1 ≤ ((x :: q).length : Int) := by omega
   have er : rd (x :: q) 0 = x := rfl
   refine Ev.step (fun k => by simp only [spec_l2Far.l1, if_pos c1, if_pos c2, er] <;> exact rfl) ?_
   refine Ev.bind (next_ev n x E hE) ?_
   simp only [if_pos c3]
   have ed : (x :: q).drop (1 : Int).toNat = q := rfl
   rw [ed]
   exact i7 _ e1
theorem rd_rep (m : Nat) (v : Int) : rd (List.replicate m (-1)) v = if v.toNat < m then -1 else 0 := by
 unfold rd
 rw [List.getD_eq_getElem?_getD]
 by_cases c : v.toNat < m
 ·rw [if_pos c, List.getElem?_replicate, if_pos c]; rfl
 ·rw [if_neg c, List.getElem?_replicate, if_neg c]; rfl
theorem far_ev (n : Int) (E : List S53) (b : Int) (hE : ok n E) (hb : 0 ≤ b ∧ b < n) : ∃ f, Ev (fun k => spec_l2Far.f k n E b) f ∧ (f.length : Int) = n ∧ (∀ v, 0 ≤ v → v < n → rd f v ≤ n) ∧ Far n E b (rd f) := by
 have h8 := hE.2.1
 have hl : ((List.replicate n.toNat (-1 : Int)).length : Int) = n := by simp; omega
 have rs : ∀ v, 0 ≤ v → v < n → rd ((List.replicate n.toNat (-1)).set b.toNat 0) v = if b = v then 0 else -1 := fun v v0 v1 => by
  rw [rd_set hb.1 (by omega) v0]
  by_cases q : b = v
  ·rw [if_pos q, if_pos q]
  ·rw [if_neg q, if_neg q, rd_rep, if_pos (by omega)]
 have c0 : cntN (List.replicate n.toNat (-1 : Int)) = n.toNat := by
  unfold cntN
  rw [List.filter_eq_self.2]
  ·simp
  ·intro x hx; rw [List.eq_of_mem_replicate hx]; rfl
 have cs : cntN ((List.replicate n.toNat (-1 : Int)).set b.toNat 0) + 1 = n.toNat := by
  rw [cntN_set (by simp; omega) (by have := rd_rep n.toNat b; unfold rd at this; rw [this, if_pos (by omega)]; omega) (by omega), c0]
 have I : FI n E b ((List.replicate n.toNat (-1)).set b.toNat 0) [b] 0 (fun _ => False) := by
  refine ⟨hb.1, by simp; omega, by rw [rs b hb.1 hb.2, if_pos rfl], fun v v0 v1 e => ?_, fun v v0 v1 => ?_, fun v v0 v1 => ?_, fun v v0 v1 => ?_, fun v v0 v1 e => ?_, Int.le_refl _, fun x hx => ?_, by simp, fun v v0 v1 e => ?_⟩
  ·rw [rs v v0 v1] at e
   split at e
   ·rename_i q; exact q.symm
   ·omega
  ·rw [rs v v0 v1]; split <;> omega
  ·rw [rs v v0 v1]; split <;> omega
  ·rw [rs v v0 v1]; split <;> omega
  ·rw [rs v v0 v1] at e
   split at e <;> omega
  ·rw [List.mem_singleton] at hx
   subst hx
   exact ⟨hb.1, hb.2, by rw [rs x hb.1 hb.2, if_pos rfl]; omega⟩
  ·rw [rs v v0 v1] at e
   split at e
   ·rename_i q; exact .inl (by simp [q])
   ·omega
 obtain ⟨f', e1, e2, e3, e4⟩ := far_l1 n E b hE 100 _ [b] 0 (by simp; omega) (by omega) I
 refine ⟨f', ?_, e2, e3, e4⟩
 unfold spec_l2Far.f
 have go : ∀ (d : Nat) (i : Int), 0 ≤ i → i + d = n → Ev (fun k => spec_l2Far.l0 k b (List.replicate i.toNat (-1)) i n E) f' := by
  intro d
  induction d with
  | zero =>
   intro i i0 hi
   have e : i = n := by omega
   subst e
   have c : ¬ i < i := by omega
   have b1 : b < ((List.replicate i.toNat (-1 : Int)).length : Int) := by omega
   have b0 : 0 ≤ b := hb.1
   exact Ev.step (fun k => by simp only [spec_l2Far.l0, if_neg c, if_pos b0, if_pos b1] <;> exact rfl) e1
  | succ d ih =>
   intro i i0 hi
   have c : i < n := by omega
   have l : (List.replicate i.toNat (-1 : Int)).length < 17592186044416 := by simp; omega
   have w : wrap64 (i + 1) = i + 1 := w64 (by omega) (by omega)
   have := ih (i + 1) (by omega) (by omega)
   have e : List.replicate (i + 1).toNat (-1 : Int) = List.replicate i.toNat (-1) ++ [-1] := by
    rw [show (i + 1).toNat = i.toNat + 1 by omega, List.replicate_succ']
   rw [e] at this
   exact Ev.step (fun k => by simp only [spec_l2Far.l0, if_pos c, if_pos l, w] <;> exact rfl) this
 exact go n.toNat 0 (by omega) (by have := hE.1; omega)
theorem find_l1 (n b v x : Int) (E : List S53) (f out : List Int) (d : Nat) (hf : (f.length : Int) = n) (h8 : n ≤ 8) (hv : 0 ≤ v ∧ v < n) (hd : rd f v = (d + 1 : Nat)) (hd8 : d ≤ 100) (ho : out.length ≤ 1000) : ∀ (suf p : List Int), ((p ++ suf).length : Int) < big → (∀ y ∈ suf, 0 ≤ y ∧ y < n) → suf.find? (fun w => decide (rd f w = d)) = some x →
  ∀ r, Ev (fun k => spec_WayFind.l0 k b (out ++ [x]) f x n E) r → Ev (fun k => spec_WayFind.l1 k b out f v (p ++ suf) (p.length : Int) n E) r := by
 intro suf
 induction suf with
 | nil => intro p _ _ h; simp at h
 | cons t suf ih =>
  intro p hb hs h r hr
  have hp : (p.length : Int) < big := len_mid hb
  obtain ⟨t0, t1⟩ := hs t (by simp)
  have t2 : t < (f.length : Int) := by omega
  have v0 : 0 ≤ v := hv.1
  have v1 : v < (f.length : Int) := by omega
  have w : wrap64 (rd f v - 1) = d := by rw [hd]; rw [w64 (by omega) (by omega)]; omega
  have lo : out.length < 17592186044416 := by omega
  rw [List.find?_cons] at h
  by_cases c : rd f t = d
  ·simp only [c, decide_true] at h
   injection h with h
   subst h
   exact Ev.step (fun k => by simp only [spec_WayFind.l1, lt_mid, nn, if_true, rd_mid, if_pos t0, if_pos t2, if_pos v0, if_pos v1, w, if_pos c, if_pos lo] <;> exact rfl) hr
  ·simp only [c, decide_false] at h
   have := ih (p ++ [t]) (by rw [← app_one]; exact hb) (fun y hy => hs y (by simp [hy])) h r hr
   rw [← app_one] at this
   exact Ev.step (fun k => by simp only [spec_WayFind.l1, lt_mid, nn, if_true, rd_mid, if_pos t0, if_pos t2, if_pos v0, if_pos v1, w, if_neg c, w_succ (t := t) hp] <;> exact rfl) this
theorem find_l0 (n b : Int) (E : List S53) (hE : ok n E) (f : List Int) (hf : (f.length : Int) = n) (F : Far n E b (rd f)) : ∀ (d : Nat) (v : Int) (out : List Int), d ≤ 100 → out.length + d ≤ 1000 → 0 ≤ v ∧ v < n → rd f v = (d : Int) →
  Ev (fun k => spec_WayFind.l0 k b out f v n E) (out ++ (down n E (rd f) d v).tail, true) := by
 intro d
 induction d with
 | zero =>
  intro v out _ _ hv hd
  have e : v = b := F.only v hv.1 hv.2 hd
  exact Ev.step (fun k => by simp only [spec_WayFind.l0, if_pos e] <;> exact rfl) (Ev.val (by simp [down]))
 | succ d ih =>
  intro v out hd8 ho hv hd
  have c : v ≠ b := fun e => by rw [e, F.zero] at hd; omega
  obtain ⟨x, ex, ht, hx, hr, _⟩ := F.step hE.2.2.1 hv hd
  refine Ev.step (fun k => by simp only [spec_WayFind.l0, if_neg c] <;> exact rfl) ?_
  refine Ev.bind (next_ev n v E hE) ?_
  have nl : ((next n E v).length : Int) < big := by
   have := List.length_filter_le (fun i => decide (tieOf v i ∈ E)) (knots n)
   rw [knots_len] at this
   have := hE.2.1
   unfold next big
   omega
  refine find_l1 n b v x E f out d hf hE.2.1 hv hd (by omega) (by omega) (next n E v) [] (by simpa using nl) (fun y hy => (tieOf_ends (hE.2.2.1 _ ((mem_next hE.2.2.1).1 hy))).2.1) ex _ ?_
  have := ih x (out ++ [x]) (by omega) (by simp; omega) hr hx
  obtain ⟨r, e1, _⟩ := down_way F hE.2.2.1 d x hr hx
  have e2 : (down n E (rd f) (d + 1) v).tail = x :: r := by
   rw [down, ex]
   exact e1
  rw [e1] at this
  rw [e2]
  simpa using this
open Classical in
theorem specFind_ev (n a b : Int) (E : List S53) (hl : (E.length : Int) < big) : Ev (fun k => spec_WayFind.f k n E a b) (if ok n E ∧ (0 ≤ a ∧ a < n) ∧ (0 ≤ b ∧ b < n) then found n E a b else ([], false)) := by
 by_cases ca : ok n E ∧ 0 ≤ a ∧ a < n
 ·by_cases cb : 0 ≤ b ∧ b < n
  ·have cc : ok n E ∧ 0 ≤ b ∧ b < n := ⟨ca.1, cb⟩
   obtain ⟨f, f1, f2, f3, F⟩ := far_ev n E b ca.1 cb
   have a0 : 0 ≤ a := ca.2.1
   have a1 : a < (f.length : Int) := by omega
   rw [if_pos ⟨ca.1, ca.2, cb⟩, found_far F ca.1.2.1 ca.1.2.2.1 ca.2]
   have fa := f3 a ca.2.1 ca.2.2
   have h8 := ca.1.2.1
   obtain ⟨res, hres⟩ : ∃ r : List Int × Bool, r = (if 0 ≤ rd f a then (firstWay n E (rd f) a, true) else ([], false)) := ⟨_, rfl⟩
   rw [← hres]
   unfold spec_WayFind.f
   simp only [Option.bind_some]
   refine Ev.bind (l1Knot_ev n a E hl) ?_
   rw [decide_eq_true ca]
   simp only [if_true]
   refine Ev.bind (l1Knot_ev n b E hl) ?_
   rw [decide_eq_true cc]
   refine Ev.step (fun k => by simp only [spec_WayFind.j0, Bool.not_true, Bool.false_eq_true, if_false] <;> exact rfl) ?_
   refine Ev.bind f1 ?_
   simp only [if_pos a0, if_pos a1]
   rw [hres]
   by_cases c : 0 ≤ rd f a
   ·have c' : ¬ rd f a < 0 := by omega
    rw [if_pos c]
    simp only [if_neg c', List.nil_append, List.length_nil, Nat.reduceLT, if_true]
    have := find_l0 n b E ca.1 f f2 F (rd f a).toNat a [a] (by omega) (by simp; omega) ca.2 (by omega)
    obtain ⟨r, e1, _⟩ := down_way F ca.1.2.2.1 (rd f a).toNat a ca.2 (by omega)
    unfold firstWay
    rw [e1] at this ⊢
    exact this
   ·have c' : rd f a < 0 := by omega
    rw [if_neg c]
    simp only [if_pos c']
    exact Ev.val rfl
  ·have cc : ¬ (ok n E ∧ 0 ≤ b ∧ b < n) := fun h => cb h.2
   rw [if_neg (fun h => cb h.2.2)]
   unfold spec_WayFind.f
   simp only [Option.bind_some]
   refine Ev.bind (l1Knot_ev n a E hl) ?_
   rw [decide_eq_true ca]
   simp only [if_true]
   refine Ev.bind (l1Knot_ev n b E hl) ?_
   rw [decide_eq_false cc]
   exact Ev.step (fun k => by simp only [spec_WayFind.j0, Bool.not_false, if_true] <;> exact rfl) (Ev.val rfl)
 ·rw [if_neg (fun h => ca ⟨h.1, h.2.1⟩)]
  unfold spec_WayFind.f
  simp only [Option.bind_some]
  refine Ev.bind (l1Knot_ev n a E hl) ?_
  rw [decide_eq_false ca]
  simp only [Bool.false_eq_true, if_false]
  exact Ev.step (fun k => by simp only [spec_WayFind.j0, if_true] <;> exact rfl) (Ev.val rfl)
end Go.Proofs.Ytddadihobjinhaa.P
namespace Go.Proofs.Ytddadihobjinhaa.P
open Go.RowKit Go.Proofs.YtddadihobjinhaaW.PrintWords Go.Proofs.Ytddadihobjinhaa.G
open Classical in
theorem joined_ev (n a b : Int) (X : List S53) (hX : ok n X) (ha : 0 ≤ a ∧ a < n) (hb : 0 ≤ b ∧ b < n) : Ev (fun k => impl_Net_joined.f k n X a b) (decide (Conn X a b)) := by
 obtain ⟨f, f1, f2⟩ := parts_ev n X hX
 have hl := f2.len
 have a0 : 0 ≤ a := ha.1
 have a1 : a < (f.length : Int) := by omega
 have b0 : 0 ≤ b := hb.1
 have b1 : b < (f.length : Int) := by omega
 unfold impl_Net_joined.f
 refine Ev.bind f1 ?_
 simp only [if_pos a0, if_pos a1, if_pos b0, if_pos b1]
 refine Ev.val ?_
 congr 1
 rw [Bool.eq_iff_iff, beq_iff_eq, decide_eq_true_eq]
 exact f2.iff ha hb
theorem rdTi_mid (pre : List S53) (t : S53) (suf : List S53) : rd_T53 (pre ++ t :: suf) (pre.length : Int) = t := by
 unfold rd_T53; exact getD_mid pre t suf _
theorem treeImpl_l0 (n : Int) (E : List S53) (hE : ok n E) : ∀ (suf p X : List S53), p ++ suf = E → X.Sublist p →
  Ev (fun k => impl_Net_tree.l0 k (p ++ suf) ((p ++ suf).length : Int) (p.length : Int) n X) (n, treeOn X suf) := by
 have hEl := ok_len hE
 intro suf
 induction suf with
 | nil =>
  intro p X he hX
  exact Ev.step (fun k => by simp only [impl_Net_tree.l0, nlt_end, if_false] <;> exact rfl) (Ev.val rfl)
 | cons t suf ih =>
  intro p X he hX
  have hp : (p.length : Int) < big := len_mid (suf := suf) (t := t) (by rw [he]; unfold big; omega)
  have ht := hE.2.2.1 t (by rw [← he]; simp)
  unfold inr at ht
  have hXE : X.Sublist E := hX.trans (by rw [← he]; exact List.sublist_append_left _ _)
  have hXl : X.length < 8796093022208 := by have := hXE.length_le; omega
  refine Ev.step (fun k => by simp only [impl_Net_tree.l0, lt_mid, nn, if_true, rdTi_mid, w_succ (t := t) hp] <;> exact rfl) ?_
  refine Ev.bind (joined_ev n t.f0 t.f1 X (ok_sublist hE hXE) (by omega) (by omega)) ?_
  by_cases c : Conn X t.f0 t.f1
  ·have e : treeOn X (t :: suf) = treeOn X suf := by rw [treeOn, if_pos c]
   rw [e]
   simp only [c, decide_true, if_true]
   rw [app_one p t suf]
   exact ih (p ++ [t]) X (by rw [← he]; simp) (hX.trans (List.sublist_append_left _ _))
  ·have e : treeOn X (t :: suf) = treeOn (X ++ [t]) suf := by rw [treeOn, if_neg c]
   rw [e]
   simp only [c, decide_false, Bool.false_eq_true, if_false, if_pos hXl]
   rw [app_one p t suf]
   exact ih (p ++ [t]) (X ++ [t]) (by rw [← he]; simp) (hX.append (List.Sublist.refl _))
theorem treeImpl (n : Int) (E : List S53) (hE : ok n E) : Ev (fun k => impl_Net_tree.f k n E) (n, tree E) := by
 unfold impl_Net_tree.f
 exact treeImpl_l0 n E hE E [] [] rfl (List.Sublist.refl _)
end Go.Proofs.Ytddadihobjinhaa.P
namespace Go.Proofs.Ytddadihobjinhaa.P
open Go.RowKit Go.Proofs.YtddadihobjinhaaW.PrintWords Go.Proofs.Ytddadihobjinhaa.G
theorem rdTr_mid (pre : List S53) (t : S53) (suf : List S53) : rd_T53 (pre ++ t :: suf) (pre.length : Int) = t := by
 unfold rd_T53; exact getD_mid pre t suf _
theorem treeSpec_l0 (n : Int) (E : List S53) (hE : ok n E) : ∀ (suf p X : List S53), p ++ suf = E → X.Sublist p →
  Ev (fun k => spec_TreeOf.l0 k X (p.length : Int) n (p ++ suf)) (treeOn X suf) := by
 have hEl := ok_len hE
 intro suf
 induction suf with
 | nil =>
  intro p X he hX
  exact Ev.step (fun k => by simp only [spec_TreeOf.l0, nlt_end, if_false] <;> exact rfl) (Ev.val rfl)
 | cons t suf ih =>
  intro p X he hX
  have hp : (p.length : Int) < big := len_mid (suf := suf) (t := t) (by rw [he]; unfold big; omega)
  have ht := hE.2.2.1 t (by rw [← he]; simp)
  have ht' := ht
  unfold inr at ht'
  have hXE : X.Sublist E := hX.trans (by rw [← he]; exact List.sublist_append_left _ _)
  have hXl : X.length < 8796093022208 := by have := hXE.length_le; omega
  obtain ⟨f, f1, f2, f3⟩ := reach_ev n X t.f0 (ok_sublist hE hXE) (by omega) (by omega)
  have g0 : 0 ≤ t.f1 := by omega
  have g1 : t.f1 < (f.length : Int) := by omega
  have f3' := f3 t.f1 (by omega) (by omega)
  refine Ev.step (fun k => by simp only [spec_TreeOf.l0, lt_mid, nn, if_true, rdTr_mid, w_succ (t := t) hp] <;> exact rfl) ?_
  refine Ev.bind f1 ?_
  simp only [if_pos g0, if_pos g1]
  rw [app_one p t suf]
  by_cases c : Conn X t.f0 t.f1
  ·have e : treeOn X (t :: suf) = treeOn X suf := by rw [treeOn, if_pos c]
   have c' : rdOf false f t.f1 = true := f3'.2 c
   rw [e]
   simp only [c', if_true]
   exact ih (p ++ [t]) X (by rw [← he]; simp) (hX.trans (List.sublist_append_left _ _))
  ·have e : treeOn X (t :: suf) = treeOn (X ++ [t]) suf := by rw [treeOn, if_neg c]
   have c' : rdOf false f t.f1 = false := by
    cases q : rdOf false f t.f1 with
    | true => exact absurd (f3'.1 q) c
    | false => rfl
   rw [e]
   simp only [c', Bool.false_eq_true, if_false, if_pos hXl]
   exact ih (p ++ [t]) (X ++ [t]) (by rw [← he]; simp) (hX.append (List.Sublist.refl _))
open Classical in
theorem treeSpec (n : Int) (E : List S53) (hE : (E.length : Int) < big) : Ev (fun k => spec_TreeOf.f k n E) (if ok n E then tree E else []) := by
 unfold spec_TreeOf.f
 simp only [Option.bind_some]
 refine Ev.bind (specOk n E hE) ?_
 by_cases c : ok n E
 ·simp only [c, decide_true, if_true]
  exact treeSpec_l0 n E c E [] [] rfl (List.Sublist.refl _)
 ·simp only [c, decide_false, Bool.false_eq_true, if_false]
  exact Ev.val rfl
end Go.Proofs.Ytddadihobjinhaa.P
namespace Go.Proofs.Ytddadihobjinhaa.P
open Go.RowKit Go.Proofs.YtddadihobjinhaaW.PrintWords Go.Proofs.Ytddadihobjinhaa.G
def PL (n : Int) (E : List Tie) (a : List Int) : Prop := ∀ v, 0 ≤ v → v < (a.length : Int) → 0 ≤ rd a v ∧ rd a v ≤ v ∧ Conn E v (rd a v) ∧ ∀ u, 0 ≤ u → u < n → Conn E v u → rd a v ≤ u
theorem rd_old {a : List Int} {x v : Int} (h0 : 0 ≤ v) (h1 : v < (a.length : Int)) : rd (a ++ [x]) v = rd a v := by
 unfold rd
 rw [List.getD_eq_getElem?_getD, List.getD_eq_getElem?_getD, List.getElem?_append_left (by omega)]
theorem rd_last (a : List Int) (x : Int) : rd (a ++ [x]) (a.length : Int) = x := rd_mid a x []
theorem PL.parts {n : Int} {E : List Tie} {a : List Int} (h : PL n E a) (hl : (a.length : Int) = n) : Parts n E a where
 len := hl
 low := fun v h0 h1 => ⟨(h v h0 (by omega)).1, (h v h0 (by omega)).2.1⟩
 conn := fun v h0 h1 => (h v h0 (by omega)).2.2.1
 same := fun u v u0 u1 v0 v1 c => by
  obtain ⟨a1, a2, a3, a4⟩ := h u u0 (by omega)
  obtain ⟨b1, b2, b3, b4⟩ := h v v0 (by omega)
  have := a4 _ b1 (by omega) (c.trans b3)
  have := b4 _ a1 (by omega) (c.symm.trans a3)
  omega
theorem wparts_l1 (n i : Int) (E : List S53) (f : List Bool) (hf : (f.length : Int) = n) (h8 : n ≤ 8) (hfc : ∀ v, 0 ≤ v → v < n → (rdOf false f v = true ↔ Conn E i v)) (i0 : 0 ≤ i) (i1 : i < n) (a : List Int) (hal : (a.length : Int) = i) :
  ∀ (d : Nat) (v : Int), 0 ≤ v → v + d = i → (∀ u, 0 ≤ u → u < v → ¬ Conn E i u) → ∃ x, 0 ≤ x ∧ x ≤ i ∧ Conn E i x ∧ (∀ u, 0 ≤ u → u < x → ¬ Conn E i u) ∧
   ∀ r, Ev (fun k => spec_WayParts.l0 k (a ++ [x]) (i + 1) n E) r → Ev (fun k => spec_WayParts.l1 k a i f v n E) r := by
 intro d
 have wi : wrap64 (i + 1) = i + 1 := w64 (by omega) (by omega)
 have al : a.length < 17592186044416 := by omega
 induction d with
 | zero =>
  intro v h0 hd hu
  obtain rfl : v = i := by omega
  have c : rdOf false f v = true := (hfc v h0 i1).2 (.refl _)
  refine ⟨v, h0, Int.le_refl _, .refl _, hu, fun r hr => ?_⟩
  have f1 : v < (f.length : Int) := by omega
  refine Ev.step (fun k => by simp only [spec_WayParts.l1, if_pos h0, if_pos f1, if_pos c, if_pos al, wi] <;> exact rfl) hr
 | succ d ih =>
  intro v h0 hd hu
  have f1 : v < (f.length : Int) := by omega
  have wv : wrap64 (v + 1) = v + 1 := w64 (by omega) (by omega)
  by_cases c : rdOf false f v = true
  ·refine ⟨v, h0, by omega, (hfc v h0 (by omega)).1 c, hu, fun r hr => ?_⟩
   refine Ev.step (fun k => by simp only [spec_WayParts.l1, if_pos h0, if_pos f1, if_pos c, if_pos al, wi] <;> exact rfl) hr
  ·have nc : ¬ Conn E i v := fun q => c ((hfc v h0 (by omega)).2 q)
   obtain ⟨x, x0, x1, x2, x3, x4⟩ := ih (v + 1) (by omega) (by omega) (fun u u0 u1 => by
    by_cases e : u = v
    ·subst e; exact nc
    ·exact hu u u0 (by omega))
   refine ⟨x, x0, x1, x2, x3, fun r hr => ?_⟩
   refine Ev.step (fun k => by simp only [spec_WayParts.l1, if_pos h0, if_pos f1, if_neg c, wv] <;> exact rfl) (x4 r hr)
theorem wparts_l0 (n : Int) (E : List S53) (hE : ok n E) : ∀ (d : Nat) (i : Int) (a : List Int), 0 ≤ i → i + d = n → (a.length : Int) = i → PL n E a →
  ∃ f, Ev (fun k => spec_WayParts.l0 k a i n E) f ∧ Parts n E f := by
 intro d
 induction d with
 | zero =>
  intro i a h0 h hl hp
  obtain rfl : i = n := by omega
  exact ⟨a, Ev.step (fun k => by simp only [spec_WayParts.l0, if_neg (Int.lt_irrefl _)] <;> exact rfl) (Ev.val rfl), hp.parts hl⟩
 | succ d ih =>
  intro i a h0 h hl hp
  have c : i < n := by omega
  obtain ⟨fl, e1, e2, e3⟩ := reach_ev n E i hE h0 c
  obtain ⟨x, x0, x1, x2, x3, x4⟩ := wparts_l1 n i E fl e2 hE.2.1 e3 h0 c a hl i.toNat 0 (Int.le_refl _) (by omega) (fun u u0 u1 => by omega)
  obtain ⟨f, f1, f2⟩ := ih (i + 1) (a ++ [x]) (by omega) (by omega) (by simp; omega) (fun v v0 v1 => by
   by_cases e : v = i
   ·subst e
    have : rd (a ++ [x]) v = x := by rw [← hl]; exact rd_last a x
    rw [this]
    refine ⟨x0, x1, x2, fun u u0 u1 cu => ?_⟩
    apply Classical.byContradiction
    intro q
    exact x3 u u0 (by omega) cu
   ·have v2 : v < (a.length : Int) := by simp at v1; omega
    rw [rd_old v0 v2]
    exact hp v v0 v2)
  exact ⟨f, Ev.step (fun k => by simp only [spec_WayParts.l0, if_pos c] <;> exact rfl) (Ev.bind e1 (x4 f f1)), f2⟩
theorem wparts_ev (n : Int) (E : List S53) (hE : ok n E) : ∃ f, Ev (fun k => spec_WayParts.f k n E) f ∧ Parts n E f := by
 have h0 := hE.1
 obtain ⟨f, a, b⟩ := wparts_l0 n E hE n.toNat 0 [] (Int.le_refl _) (by omega) rfl (fun v v0 v1 => by simp at v1; omega)
 refine ⟨f, ?_, b⟩
 unfold spec_WayParts.f
 simp only [Option.bind_some]
 refine Ev.bind (specOk n E (by have := ok_len hE; unfold big; omega)) ?_
 simp only [decide_eq_true hE, if_true]
 exact a
end Go.Proofs.Ytddadihobjinhaa.P
namespace Go.Proofs.Ytddadihobjinhaa.P
open Go.RowKit Go.Proofs.YtddadihobjinhaaW.PrintWords Go.Proofs.Ytddadihobjinhaa.G
def fine (E : List Tie) (sides : List Int) : Prop := ∀ t ∈ E, rd sides t.f0 ≠ rd sides t.f1
instance (E : List Tie) (sides : List Int) : Decidable (fine E sides) := by unfold fine; infer_instance
def sideOk (n : Int) (E : List Tie) (sides : List Int) : Prop := ok n E ∧ (sides.length : Int) = n ∧ (∀ s ∈ sides, 0 ≤ s ∧ s ≤ 1) ∧ fine E sides
instance (n : Int) (E : List Tie) (sides : List Int) : Decidable (sideOk n E sides) := by unfold sideOk; infer_instance
end Go.Proofs.Ytddadihobjinhaa.P
namespace Go.Proofs.Ytddadihobjinhaa.P
open Go.RowKit Go.Proofs.YtddadihobjinhaaW.PrintWords Go.Proofs.Ytddadihobjinhaa.G
def Sides (n : Int) (E : List Tie) (c : Int → Bool) : Prop := proper (tree E) c ∧ ∀ f, Parts n E f → ∀ v, 0 ≤ v → v < n → c (rd f v) = false
theorem tree_parts {n : Int} {E : List Tie} (hE : ∀ t ∈ E, inr n t) {f : List Int} : Parts n (tree E) f ↔ Parts n E f :=
  ⟨fun h => ⟨h.len, h.low, fun v v0 v1 => (tree_conn hE _ _).1 (h.conn v v0 v1), fun u v u0 u1 v0 v1 c => h.same u v u0 u1 v0 v1 ((tree_conn hE _ _).2 c)⟩,
   fun h => ⟨h.len, h.low, fun v v0 v1 => (tree_conn hE _ _).2 (h.conn v v0 v1), fun u v u0 u1 v0 v1 c => h.same u v u0 u1 v0 v1 ((tree_conn hE _ _).1 c)⟩⟩
theorem sides_ex {n : Int} {E : List Tie} (hE : ok n E) : ∃ c, Sides n E c := by
  obtain ⟨c, hc⟩ := tree_col (n := n) hE.2.2.1
  by_cases q : ∃ f, Parts n E f
  · obtain ⟨f, hf⟩ := q
    refine ⟨fun v => xor (c v) (c (rd f v)), fun t ht => ?_, fun g hg v v0 v1 => ?_⟩
    · have htE := (tree_sub E).subset ht
      have hi := hE.2.2.1 t htE
      unfold inr at hi
      have e : rd f t.f0 = rd f t.f1 := (hf.iff (by omega) (by omega)).2 (Conn.tie htE hi.2.1)
      have := hc t ht
      show xor (c t.f0) (c (rd f t.f0)) ≠ xor (c t.f1) (c (rd f t.f1))
      rw [e]
      revert this
      cases c t.f0 <;> cases c t.f1 <;> cases c (rd f t.f1) <;> simp
    · have e := hf.unique hg
      subst e
      have h1 := hf.low v v0 v1
      have e : rd f (rd f v) = rd f v := (hf.iff ⟨h1.1, by omega⟩ ⟨v0, v1⟩).2 (hf.conn v v0 v1).symm
      show xor (c (rd f v)) (c (rd f (rd f v))) = false
      rw [e]; cases c (rd f v) <;> rfl
  · exact ⟨c, hc, fun f hf => absurd ⟨f, hf⟩ q⟩
open Classical in
noncomputable def col (n : Int) (E : List Tie) : Int → Bool := if h : ok n E then Classical.choose (sides_ex h) else fun _ => false
theorem col_sides {n : Int} {E : List Tie} (hE : ok n E) : Sides n E (col n E) := by
  unfold col
  rw [dif_pos hE]
  exact Classical.choose_spec (sides_ex hE)
noncomputable def sd (n : Int) (E : List Tie) (v : Int) : Int := if col n E v = true then 1 else 0
noncomputable def sidesL (n : Int) (E : List Tie) : List Int := (knots n).map (sd n E)
theorem sidesL_len {n : Int} (E : List Tie) (h : 0 ≤ n) : ((sidesL n E).length : Int) = n := by
  unfold sidesL
  rw [List.length_map, knots_len]; omega
theorem rd_map (g : Int → Int) {n v : Int} (h0 : 0 ≤ v) (h1 : v < n) : rd ((knots n).map g) v = g v := by
  unfold rd knots
  rw [List.getD_eq_getElem?_getD, List.map_map, List.getElem?_map, List.getElem?_range (by omega)]
  simp [Int.toNat_of_nonneg h0]
theorem sd_eq {n : Int} {E : List Tie} {u v : Int} : sd n E u = sd n E v ↔ col n E u = col n E v := by
  unfold sd
  cases col n E u <;> cases col n E v <;> simp
theorem sd_way {n : Int} {E : List Tie} (hE : ok n E) {f : List Int} (hf : Parts n E f) {v : Int} (v0 : 0 ≤ v) (v1 : v < n) {p : List Int} (hp : isWay (tree E) (rd f v) v p) : Int.tmod (wrap64 ((p.length : Int) + 1)) 2 = sd n E v := by
  have hi : ∀ t ∈ tree E, inr n t := fun t ht => hE.2.2.1 t ((tree_sub E).subset ht)
  have h1 := hf.low v v0 v1
  have hl := way_len hi ⟨h1.1, by omega⟩ hp
  have h8 := hE.2.1
  rw [w64 (by omega) (by omega), Int.tmod_eq_emod_of_nonneg (by omega)]
  obtain ⟨c1, c2⟩ := col_sides hE
  have q := proper_way c1 hp
  rw [c2 f hf v v0 v1] at q
  unfold sd
  cases e : col n E v with
  | true =>
    rw [e] at q
    have : ¬ p.length % 2 = 1 := fun k => by have := q.2 k; simp at this
    rw [if_pos rfl]; omega
  | false =>
    rw [e] at q
    have := q.1 rfl
    rw [if_neg (by simp)]; omega
theorem sides_l0 (n : Int) (E : List S53) (hE : ok n E) (f : List Int) (hf : Parts n E f) : ∀ (suf p : List Int), p ++ suf = knots n →
    Ev (fun k => impl_Net_sides.l0 k (p.map (sd n E) ++ suf.map (fun _ => 0)) f n (p.length : Int) n (tree E)) (sidesL n E) := by
  have hT : ok n (tree E) := ok_sublist hE (tree_sub E)
  have h8 := hE.2.1
  have hl := hf.len
  intro suf
  induction suf with
  | nil =>
    intro p hp
    have e := knots_end hE.1 hp
    have c : ¬ (p.length : Int) < n := by omega
    refine Ev.step (fun k => by simp only [impl_Net_sides.l0, if_neg c] <;> exact rfl) (Ev.val ?_)
    rw [List.append_nil] at hp
    rw [hp]; simp [sidesL]
  | cons t suf ih =>
    intro p hp
    obtain ⟨et, hlt⟩ := knots_mid hp
    have p0 : 0 ≤ (p.length : Int) := nn _
    have p1 : (p.length : Int) < (f.length : Int) := by omega
    have lw := hf.low (p.length : Int) p0 hlt
    obtain ⟨w, r, e1, _, e3⟩ := found_way (n := n) (E := tree E) (a := rd f (p.length : Int)) (b := (p.length : Int)) h8 hT.2.2.1 ⟨lw.1, by omega⟩ ((tree_conn hE.2.2.1 _ _).2 (hf.conn _ p0 hlt).symm)
    have ws : wrap64 ((p.length : Int) + 1) = ((p ++ [t]).length : Int) := by rw [w64 (by omega) (by omega)]; simp
    have q1 : 0 < ((w :: r).length : Int) := by rw [List.length_cons]; omega
    have q2 : (p.length : Int) < ((p.map (sd n E) ++ (t :: suf).map (fun _ => (0 : Int))).length : Int) := by simp; omega
    refine Ev.step (fun k => by simp only [impl_Net_sides.l0, if_pos hlt, if_pos p0, if_pos p1] <;> exact rfl) ?_
    refine Ev.bind (all_ev n _ _ (tree E) hT ⟨lw.1, by omega⟩) ?_
    rw [e1]
    have er : rd_L4 (w :: r) 0 = w := rfl
    simp only [if_pos q1, if_pos q2, er, ws, sd_way hE hf p0 hlt e3]
    have es : (p.map (sd n E) ++ (t :: suf).map (fun _ => (0 : Int))).set ((p.length : Int)).toNat (sd n E (p.length : Int)) = (p ++ [t]).map (sd n E) ++ suf.map (fun _ => 0) := by
      rw [List.map_cons, show ((p.length : Int)).toNat = (p.map (sd n E)).length by simp]
      simp [et]
    rw [es]
    exact ih (p ++ [t]) (by rw [← hp]; simp)
theorem sides_ev (n : Int) (E : List S53) (hE : ok n E) : Ev (fun k => impl_Net_sides.f k n (tree E)) (sidesL n E) := by
  have hT : ok n (tree E) := ok_sublist hE (tree_sub E)
  obtain ⟨f, f1, f2⟩ := parts_ev n (tree E) hT
  have h8 := hE.2.1
  have c0 : 0 ≤ n := hE.1
  have c1 : n.toNat ≤ 35184372088832 := by omega
  have hl : ((List.replicate n.toNat (0 : Int)).length : Int) = n := by simp; omega
  unfold impl_Net_sides.f
  simp only [if_pos c0, if_pos c1, Option.bind_some, hl]
  refine Ev.bind f1 ?_
  have := sides_l0 n E hE f ((tree_parts hE.2.2.1).1 f2) (knots n) [] (by simp)
  have er : (knots n).map (fun _ => (0 : Int)) = List.replicate n.toNat 0 := by rw [List.map_const', knots_len]
  simpa [er] using this
open Classical in
theorem tree23_ev (n : Int) (E : List S53) (hE : ok n E) : Ev (fun k => spec_l23Tree.f k n E) (sidesL n E) := by
  have hT : ok n (tree E) := ok_sublist hE (tree_sub E)
  have h8 := hE.2.1
  have hEb : (E.length : Int) < big := by have := ok_len hE; unfold big; omega
  have hTb : ((tree E).length : Int) < big := by have := ok_len hT; unfold big; omega
  obtain ⟨f, f1, hf⟩ := wparts_ev n E hE
  have hl := hf.len
  unfold spec_l23Tree.f
  have t1 := treeSpec n E hEb
  rw [if_pos hE] at t1
  refine Ev.bind t1 ?_
  refine Ev.bind f1 ?_
  have loop : ∀ (suf p : List Int), p ++ suf = knots n → Ev (fun k => spec_l23Tree.l0 k (p.map (sd n E)) f (p.length : Int) n E n (tree E)) (sidesL n E) := by
    intro suf
    induction suf with
    | nil =>
      intro p hp
      have e := knots_end hE.1 hp
      have c : ¬ (p.length : Int) < n := by omega
      refine Ev.step (fun k => by simp only [spec_l23Tree.l0, if_neg c] <;> exact rfl) (Ev.val ?_)
      rw [List.append_nil] at hp
      rw [hp]; simp [sidesL]
    | cons t suf ih =>
      intro p hp
      obtain ⟨et, hlt⟩ := knots_mid hp
      have p0 : 0 ≤ (p.length : Int) := nn _
      have p1 : (p.length : Int) < (f.length : Int) := by omega
      have lw := hf.low (p.length : Int) p0 hlt
      obtain ⟨w, r, _, e2, e3⟩ := found_way (n := n) (E := tree E) (a := rd f (p.length : Int)) (b := (p.length : Int)) h8 hT.2.2.1 ⟨lw.1, by omega⟩ ((tree_conn hE.2.2.1 _ _).2 (hf.conn _ p0 hlt).symm)
      have ws : wrap64 ((p.length : Int) + 1) = ((p ++ [t]).length : Int) := by rw [w64 (by omega) (by omega)]; simp
      have q1 : (p.map (sd n E)).length < 17592186044416 := by simp; omega
      refine Ev.step (fun k => by simp only [spec_l23Tree.l0, if_pos hlt, if_pos p0, if_pos p1] <;> exact rfl) ?_
      have g := specFind_ev n (rd f (p.length : Int)) (p.length : Int) (tree E) hTb
      rw [if_pos ⟨hT, ⟨lw.1, by omega⟩, p0, hlt⟩, e2] at g
      refine Ev.bind g ?_
      simp only [if_pos q1, ws, sd_way hE hf p0 hlt e3]
      have es : p.map (sd n E) ++ [sd n E (p.length : Int)] = (p ++ [t]).map (sd n E) := by simp [et]
      rw [es]
      exact ih (p ++ [t]) (by rw [← hp]; simp)
  exact loop (knots n) [] (by simp)
open Classical in
noncomputable def sideOddG (n : Int) (E : List Tie) : List Int × Bool := if ok n E then (match E.find? (fun t => decide (sd n E t.f0 = sd n E t.f1)) with
  | some t => ((found n (tree E) t.f1 t.f0).1, true)
  | none => ([], false)) else ([], false)
theorem rdS_mid (pre : List S53) (t : S53) (suf : List S53) : rd_T53 (pre ++ t :: suf) (pre.length : Int) = t := by
  unfold rd_T53; exact getD_mid pre t suf _
theorem odd_ends {n : Int} {E : List Tie} (hE : ok n E) {t : Tie} (ht : t ∈ E) : (0 ≤ t.f0 ∧ t.f0 < n) ∧ (0 ≤ t.f1 ∧ t.f1 < n) ∧ Conn (tree E) t.f1 t.f0 := by
  have hi := hE.2.2.1 t ht
  unfold inr at hi
  exact ⟨by omega, by omega, ((tree_conn hE.2.2.1 _ _).2 (Conn.tie ht hi.2.1)).symm⟩
open Classical in
theorem sideOddImpl (n : Int) (E : List S53) (hl : (E.length : Int) < big) : Ev (fun k => impl_SideOdd.f k n E) (sideOddG n E) := by
  unfold impl_SideOdd.f
  refine Ev.bind (implOk n E hl) ?_
  unfold sideOddG
  by_cases c : ok n E
  · simp only [c, decide_true, if_true]
    have hT : ok n (tree E) := ok_sublist c (tree_sub E)
    refine Ev.bind (treeImpl n E c) ?_
    refine Ev.bind (sides_ev n E c) ?_
    have sl := sidesL_len E c.1
    have loop : ∀ (suf p : List S53), p ++ suf = E → Ev (fun k => impl_SideOdd.l0 k (sidesL n E) (p ++ suf) ((p ++ suf).length : Int) (p.length : Int) n (tree E)) (match suf.find? (fun t => decide (sd n E t.f0 = sd n E t.f1)) with
        | some t => ((found n (tree E) t.f1 t.f0).1, true)
        | none => ([], false)) := by
      intro suf
      induction suf with
      | nil =>
        intro p _
        exact Ev.step (fun k => by simp only [impl_SideOdd.l0, nlt_end, if_false] <;> exact rfl) (Ev.val rfl)
      | cons t suf ih =>
        intro p hp
        have hp' : (p.length : Int) < big := len_mid (suf := suf) (t := t) (by rw [hp]; exact hl)
        obtain ⟨a1, a2, a3⟩ := odd_ends c (show t ∈ E by rw [← hp]; simp)
        have b0 : 0 ≤ t.f0 := a1.1
        have b1 : t.f0 < ((sidesL n E).length : Int) := by omega
        have b2 : 0 ≤ t.f1 := a2.1
        have b3 : t.f1 < ((sidesL n E).length : Int) := by omega
        have r0 : rd (sidesL n E) t.f0 = sd n E t.f0 := rd_map _ a1.1 a1.2
        have r1 : rd (sidesL n E) t.f1 = sd n E t.f1 := rd_map _ a2.1 a2.2
        by_cases d : sd n E t.f0 = sd n E t.f1
        · obtain ⟨w, r, e1, e2, e3⟩ := found_way c.2.1 hT.2.2.1 a2 a3
          have q1 : 0 < ((w :: r).length : Int) := by rw [List.length_cons]; omega
          have er : rd_L4 (w :: r) 0 = w := rfl
          refine Ev.step (fun k => by simp only [impl_SideOdd.l0, lt_mid, nn, if_true, rdS_mid, if_pos b0, if_pos b1, if_pos b2, if_pos b3, r0, r1, if_pos d] <;> exact rfl) ?_
          refine Ev.bind (all_ev n t.f1 t.f0 (tree E) hT a2) ?_
          rw [e1]
          simp only [if_pos q1, er, List.find?_cons, d, decide_true, e2]
          exact Ev.val rfl
        · refine Ev.step (fun k => by simp only [impl_SideOdd.l0, lt_mid, nn, if_true, rdS_mid, if_pos b0, if_pos b1, if_pos b2, if_pos b3, r0, r1, if_neg d, w_succ (t := t) hp'] <;> exact rfl) ?_
          simp only [List.find?_cons, d, decide_false]
          rw [app_one p t suf]
          exact ih (p ++ [t]) (by rw [← hp]; simp)
    exact loop E [] rfl
  · simp only [c, decide_false, Bool.false_eq_true, if_false]
    exact Ev.val rfl
open Classical in
theorem sideOddSpec (n : Int) (E : List S53) (hl : (E.length : Int) < big) : Ev (fun k => spec_SideOdd.f k n E) (sideOddG n E) := by
  unfold spec_SideOdd.f
  refine Ev.bind (specOk n E hl) ?_
  unfold sideOddG
  by_cases c : ok n E
  · simp only [c, decide_true, if_true]
    have hT : ok n (tree E) := ok_sublist c (tree_sub E)
    have hTb : ((tree E).length : Int) < big := by have := ok_len hT; unfold big; omega
    refine Ev.bind (tree23_ev n E c) ?_
    have t1 := treeSpec n E hl
    rw [if_pos c] at t1
    refine Ev.bind t1 ?_
    have sl := sidesL_len E c.1
    have loop : ∀ (suf p : List S53), p ++ suf = E → Ev (fun k => spec_SideOdd.l0 k (sidesL n E) (p.length : Int) n (p ++ suf) n (tree E)) (match suf.find? (fun t => decide (sd n E t.f0 = sd n E t.f1)) with
        | some t => ((found n (tree E) t.f1 t.f0).1, true)
        | none => ([], false)) := by
      intro suf
      induction suf with
      | nil =>
        intro p _
        exact Ev.step (fun k => by simp only [spec_SideOdd.l0, nlt_end, if_false] <;> exact rfl) (Ev.val rfl)
      | cons t suf ih =>
        intro p hp
        have hp' : (p.length : Int) < big := len_mid (suf := suf) (t := t) (by rw [hp]; exact hl)
        obtain ⟨a1, a2, a3⟩ := odd_ends c (show t ∈ E by rw [← hp]; simp)
        have b0 : 0 ≤ t.f0 := a1.1
        have b1 : t.f0 < ((sidesL n E).length : Int) := by omega
        have b2 : 0 ≤ t.f1 := a2.1
        have b3 : t.f1 < ((sidesL n E).length : Int) := by omega
        have r0 : rd (sidesL n E) t.f0 = sd n E t.f0 := rd_map _ a1.1 a1.2
        have r1 : rd (sidesL n E) t.f1 = sd n E t.f1 := rd_map _ a2.1 a2.2
        by_cases d : sd n E t.f0 = sd n E t.f1
        · refine Ev.step (fun k => by simp only [spec_SideOdd.l0, lt_mid, nn, if_true, rdS_mid, if_pos b0, if_pos b1, if_pos b2, if_pos b3, r0, r1, if_pos d] <;> exact rfl) ?_
          have g := specFind_ev n t.f1 t.f0 (tree E) hTb
          rw [if_pos ⟨hT, a2, a1⟩] at g
          refine Ev.bind g ?_
          simp only [List.find?_cons, d, decide_true]
          exact Ev.val rfl
        · refine Ev.step (fun k => by simp only [spec_SideOdd.l0, lt_mid, nn, if_true, rdS_mid, if_pos b0, if_pos b1, if_pos b2, if_pos b3, r0, r1, if_neg d, w_succ (t := t) hp'] <;> exact rfl) ?_
          simp only [List.find?_cons, d, decide_false]
          rw [app_one p t suf]
          exact ih (p ++ [t]) (by rw [← hp]; simp)
    exact loop E [] rfl
  · simp only [c, decide_false, Bool.false_eq_true, if_false]
    exact Ev.val rfl
end Go.Proofs.Ytddadihobjinhaa.P
namespace Go.Proofs.Ytddadihobjinhaa.P
open Go.RowKit Go.Proofs.YtddadihobjinhaaW.PrintWords Go.Proofs.Ytddadihobjinhaa.G
theorem sideOddG_is {n : Int} {E : List Tie} (h : (sideOddG n E).2 = true) : ok n E ∧ ∃ t ∈ E, col n E t.f0 = col n E t.f1 ∧ isWay (tree E) t.f1 t.f0 (sideOddG n E).1 := by
 unfold sideOddG at *
 by_cases c : ok n E
 ·rw [if_pos c] at h ⊢
  refine ⟨c, ?_⟩
  cases e : E.find? (fun t => decide (sd n E t.f0 = sd n E t.f1)) with
  | none => rw [e] at h; simp at h
  | some t =>
   have ht := List.mem_of_find?_eq_some e
   have h2 := List.find?_some e
   simp only [decide_eq_true_eq] at h2
   obtain ⟨_, a2, a3⟩ := odd_ends c ht
   obtain ⟨w, r, _, e2, e3⟩ := found_way c.2.1 (ok_sublist c (tree_sub E)).2.2.1 a2 a3
   refine ⟨t, ht, sd_eq.1 h2, ?_⟩
   show isWay (tree E) t.f1 t.f0 (found n (tree E) t.f1 t.f0).1
   rw [e2]; exact e3
 ·rw [if_neg c] at h; simp at h
theorem sideOddG_none {n : Int} {E : List Tie} (h : (sideOddG n E).2 = false) : sideOddG n E = ([], false) := by
 unfold sideOddG at *
 by_cases c : ok n E
 ·rw [if_pos c] at h ⊢
  cases e : E.find? (fun t => decide (sd n E t.f0 = sd n E t.f1)) with
  | none => rfl
  | some t => rw [e] at h; simp at h
 ·rw [if_neg c]
theorem sideOddG_len (n : Int) (E : List Tie) : (sideOddG n E).1.length ≤ 8 := by
 cases e : (sideOddG n E).2 with
 | false => rw [sideOddG_none e]; simp
 | true =>
  obtain ⟨c, t, ht, _, h⟩ := sideOddG_is e
  obtain ⟨_, a2, _⟩ := odd_ends c ht
  have := way_len (ok_sublist c (tree_sub E)).2.2.1 a2 h
  have := c.2.1
  omega
end Go.Proofs.Ytddadihobjinhaa.P
namespace Go.Proofs.Ytddadihobjinhaa.G
open Go.RowKit Go.Proofs.YtddadihobjinhaaW.PrintWords
def octs (l : List Int) : Prop := ∀ x ∈ l, 0 ≤ x ∧ x ≤ 255
theorem rd_byte {l : List Int} (h : octs l) (i : Int) : 0 ≤ rd l i ∧ rd l i ≤ 255 := by
 unfold rd
 by_cases c : i.toNat < l.length
 ·rw [List.getD_eq_getElem?_getD, List.getElem?_eq_getElem c]
  exact h _ (List.getElem_mem c)
 ·rw [List.getD_eq_getElem?_getD, List.getElem?_eq_none (by omega)]
  simp
theorem xor_nn {a b : Int} (h0 : 0 ≤ a) (h1 : a < 9223372036854775808) (h2 : 0 ≤ b) (h3 : b < 9223372036854775808) : 0 ≤ Go.bits .xor .i64 a b := by
 obtain ⟨x, rfl⟩ := Int.eq_ofNat_of_zero_le h0
 obtain ⟨y, rfl⟩ := Int.eq_ofNat_of_zero_le h2
 have hx : x ^^^ y < 2 ^ 63 := Nat.xor_lt_two_pow (by omega) (by omega)
 have e1 : (BitVec.ofInt 64 (x : Int)).toNat = x := by
  rw [BitVec.ofInt_natCast, BitVec.toNat_ofNat]; exact Nat.mod_eq_of_lt (by omega)
 have e2 : (BitVec.ofInt 64 (y : Int)).toNat = y := by
  rw [BitVec.ofInt_natCast, BitVec.toNat_ofNat]; exact Nat.mod_eq_of_lt (by omega)
 show 0 ≤ IntKind.i64.wrap ((BitVec.ofInt 64 (x : Int) ^^^ BitVec.ofInt 64 (y : Int)).toNat : Int)
 rw [BitVec.toNat_xor, e1, e2]
 simp [IntKind.wrap, IntKind.bits, IntKind.signed]
 omega
theorem tmod_nn {a b : Int} (h : 0 ≤ a) (hb : 0 < b) : 0 ≤ Int.tmod a b ∧ Int.tmod a b < b := by
 rw [Int.tmod_eq_emod_of_nonneg h]
 exact ⟨Int.emod_nonneg _ (by omega), Int.emod_lt_of_pos _ hb⟩
theorem tdiv_nn {a b : Int} (h : 0 ≤ a) (hb : 0 ≤ b) : 0 ≤ Int.tdiv a b ∧ Int.tdiv a b ≤ a := by
 rw [Int.tdiv_eq_ediv_of_nonneg h]
 exact ⟨Int.ediv_nonneg h hb, Int.ediv_le_self _ h⟩
def Drawn (lo hi : Int) (M : Nat) (c p : Int) (r : Int × List Tie × Int) : Prop := lo ≤ r.1 ∧ r.1 ≤ hi ∧ r.2.1.length ≤ M ∧ p ≤ r.2.2 ∧ r.2.2 ≤ p + c
end Go.Proofs.Ytddadihobjinhaa.G
namespace Go.Proofs.Ytddadihobjinhaa.P
open Go.RowKit Go.Proofs.YtddadihobjinhaaW.PrintWords Go.Proofs.Ytddadihobjinhaa.G
theorem open_eq (l : List Int) (h : octs l) : ∃ s, spec_l6Open.f l = some (s, 0) ∧ octs s ∧ s.length ≤ 2000 := by
 unfold spec_l6Open.f
 by_cases c : (l.length : Int) > 2000
 ·have c2 : (2000 : Int) ≤ (l.length : Int) := by omega
  exact ⟨l.take 2000, by simp only [if_pos c, if_pos c2], fun x hx => h x (List.mem_of_mem_take hx), List.length_take_le _ _⟩
 ·exact ⟨l, by simp only [if_neg c], h, by omega⟩
theorem pick_ev (s : List Int) (hs : octs s) (hl : s.length ≤ 2000) (p n : Int) (h0 : 0 ≤ p) (h1 : p ≤ 100000) :
  ∃ v, Ev (fun k => spec_l6Rd_pick.f k s p n) (v, p + 1) ∧ 0 ≤ v ∧ (v < n ∨ n < 1 ∧ v = 0) := by
 unfold spec_l6Rd_pick.f
 rw [w64 (x := p + 1) (by omega) (by omega)]
 by_cases c : n < 1
 ·refine ⟨0, ?_, Int.le_refl 0, .inr ⟨c, rfl⟩⟩
  simp only [if_pos c]
  exact Ev.step (fun k => by simp only [spec_l6Rd_pick.j0, if_true] <;> exact rfl) (Ev.val rfl)
 simp only [if_neg c]
 by_cases z : (s.length : Int) = 0
 ·refine ⟨0, ?_, Int.le_refl 0, .inl (by omega)⟩
  have z' : ((s.length : Int) == 0) = true := beq_iff_eq.2 z
  exact Ev.step (fun k => by simp only [spec_l6Rd_pick.j0, z', if_true] <;> exact rfl) (Ev.val rfl)
 have z' : ((s.length : Int) == 0) = false := beq_eq_false_iff_ne.2 z
 have zp : (0 : Int) < s.length := by omega
 have e1 : wrap64 (p + 1 - 1) = p := by rw [w64 (by omega) (by omega)]; omega
 have n0 : ¬ n = 0 := by omega
 by_cases d : p < (s.length : Int)
 ·have hb := rd_byte hs p
  have t := tmod_nn hb.1 (b := n) (by omega)
  refine ⟨Int.tmod (rd s p) n, ?_, t.1, .inl t.2⟩
  refine Ev.step (fun k => by simp only [spec_l6Rd_pick.j0, z', Bool.false_eq_true, if_false, e1, if_pos d, if_pos h0, if_neg n0, w64 (x := rd s p) (by omega) (by omega)] <;> exact rfl) (Ev.val rfl)
 ·have t1 := tmod_nn h0 zp
  have w1 : wrap64 (p * 7) = p * 7 := w64 (by omega) (by omega)
  have w2 : wrap64 (p * 7 + 3) = p * 7 + 3 := w64 (by omega) (by omega)
  have t2 := tmod_nn (a := p * 7 + 3) (by omega) zp
  have b1 := rd_byte hs (Int.tmod p (s.length : Int))
  have b2 := rd_byte hs (Int.tmod (p * 7 + 3) (s.length : Int))
  have q := tdiv_nn h0 (b := (s.length : Int)) (by omega)
  generalize hu : rd s (Int.tmod p (s.length : Int)) = u at b1
  generalize hv : rd s (Int.tmod (p * 7 + 3) (s.length : Int)) = v at b2
  generalize hy : Int.tdiv p (s.length : Int) = y at q
  have hx0 : 0 ≤ u * 131 + v * 1117 + p * 29 + y * 53 := by omega
  have hx1 : u * 131 + v * 1117 + p * 29 + y * 53 < 100000000 := by omega
  have q2 := tdiv_nn hx0 (b := 64) (by omega)
  have w3 : wrap64 (wrap64 (wrap64 (wrap64 (wrap64 u * 131) + wrap64 (wrap64 v * 1117)) + wrap64 (p * 29)) + wrap64 (wrap64 y * 53)) = u * 131 + v * 1117 + p * 29 + y * 53 := by
   rw [w64 (x := u) (by omega) (by omega), w64 (x := v) (by omega) (by omega), w64 (x := y) (by omega) (by omega), w64 (x := u * 131) (by omega) (by omega), w64 (x := v * 1117) (by omega) (by omega), w64 (x := y * 53) (by omega) (by omega), w64 (x := p * 29) (by omega) (by omega), w64 (x := u * 131 + v * 1117) (by omega) (by omega), w64 (x := u * 131 + v * 1117 + p * 29) (by omega) (by omega), w64 (by omega) (by omega)]
  have w4 : wrap64 (Int.tdiv (u * 131 + v * 1117 + p * 29 + y * 53) 64) = Int.tdiv (u * 131 + v * 1117 + p * 29 + y * 53) 64 := w64 (by omega) (by omega)
  generalize hX : u * 131 + v * 1117 + p * 29 + y * 53 = X at *
  have x0 := xor_nn hx0 (by omega) q2.1 (by omega)
  have t := tmod_nn x0 (b := n) (by omega)
  refine ⟨Int.tmod (Go.bits .xor .i64 X (Int.tdiv X 64)) n, ?_, t.1, .inl t.2⟩
  refine Ev.step (fun k => by simp only [spec_l6Rd_pick.j0, z', Bool.false_eq_true, if_false, e1, if_neg d, if_neg z, w1, w2, if_pos t1.1, if_pos t1.2, if_pos t2.1, if_pos t2.2, if_neg n0, hu, hv, hy, w3, w4] <;> exact rfl) (Ev.val rfl)
end Go.Proofs.Ytddadihobjinhaa.P
namespace Go.Proofs.Ytddadihobjinhaa.P
open Go.RowKit Go.Proofs.YtddadihobjinhaaW.PrintWords Go.Proofs.Ytddadihobjinhaa.G
theorem add_l0 (n m a b : Int) : ∀ (suf p q : List S53) (f : Bool), ((p ++ suf).length : Int) ≤ 1048576 → q.length ≤ p.length + (if f then 1 else 0) →
  ∃ E, Ev (fun k => spec_NetAdd.l0 k f (p.length : Int) n (p ++ suf) m q a b) (m, E, true) ∧ E.length ≤ (p ++ suf).length + 1 := by
 intro suf
 induction suf with
 | nil =>
  intro p q f hb hq
  have hq8 : q.length < 8796093022208 := by rw [List.length_append] at hb; split at hq <;> omega
  cases f with
  | true => exact ⟨q, Ev.step (fun k => by simp only [spec_NetAdd.l0, nlt_end, if_false, if_true] <;> exact rfl) (Ev.val rfl), by simpa using hq⟩
  | false => exact ⟨q ++ [⟨a, b⟩], Ev.step (fun k => by simp only [spec_NetAdd.l0, nlt_end, if_false, Bool.false_eq_true, if_pos hq8] <;> exact rfl) (Ev.val rfl), by simp at hq ⊢; omega⟩
 | cons t suf ih =>
  intro p q f hb hq
  have hb' : ((p ++ t :: suf).length : Int) < big := by unfold big; omega
  have hp : (p.length : Int) < big := len_mid hb'
  have hq8 : q.length + 1 < 8796093022208 := by rw [List.length_append] at hb; split at hq <;> omega
  have hq7 : q.length < 8796093022208 := by omega
  have hb2 : (((p ++ [t]) ++ suf).length : Int) ≤ 1048576 := by rw [← app_one]; exact hb
  cases f with
  | true =>
   obtain ⟨E, e1, e2⟩ := ih (p ++ [t]) (q ++ [t]) true hb2 (by simp at hq ⊢; omega)
   rw [app_one p t suf]
   refine ⟨E, Ev.step (fun k => by simp only [← app_one, spec_NetAdd.l0, lt_mid, nn, if_true, rdH_mid, w_succ (t := t) hp, if_pos hq7] <;> exact rfl) ?_, e2⟩
   rw [app_one p t suf]
   exact e1
  | false =>
   have s0 : spec_NetAdd.l0 = spec_NetAdd.l0 := rfl
   by_cases c : tlt ⟨a, b⟩ ⟨t.f0, t.f1⟩
   ·obtain ⟨E, e1, e2⟩ := ih (p ++ [t]) (q ++ [⟨a, b⟩, t]) true hb2 (by simp at hq ⊢; omega)
    have hq9 : (q ++ [(⟨a, b⟩ : S53)]).length < 8796093022208 := by simp; omega
    rw [app_one p t suf]
    refine ⟨E, Ev.step (fun k => by simp only [← app_one, spec_NetAdd.l0, lt_mid, nn, if_true, Bool.false_eq_true, if_false, rdH_mid, w_succ (t := t) hp, less_eq, Option.bind_some, decide_eq_true c, if_pos hq7, if_pos hq9] <;> exact rfl) ?_, e2⟩
    rw [app_one p t suf]
    exact e1
   ·obtain ⟨E, e1, e2⟩ := ih (p ++ [t]) (q ++ [t]) false hb2 (by simp at hq ⊢; omega)
    rw [app_one p t suf]
    refine ⟨E, Ev.step (fun k => by simp only [← app_one, spec_NetAdd.l0, lt_mid, nn, if_true, Bool.false_eq_true, if_false, rdH_mid, w_succ (t := t) hp, less_eq, Option.bind_some, decide_eq_false c, if_pos hq7] <;> exact rfl) ?_, e2⟩
    rw [app_one p t suf]
    exact e1
theorem add_ev (n a b : Int) (E : List S53) (hE : (E.length : Int) ≤ 1048576) :
  ∃ m F t, Ev (fun k => spec_NetAdd.f k n E a b) (m, F, t) ∧ F.length ≤ E.length + 1 ∧ (m = n ∨ m = 0) := by
 have hb : (E.length : Int) < big := by unfold big; omega
 have no : Ev (fun k => spec_NetAdd.j0 k a b true n E) (0, [], false) := Ev.step (fun k => by simp only [spec_NetAdd.j0, if_true] <;> exact rfl) (Ev.val rfl)
 unfold spec_NetAdd.f
 by_cases c : ok n E ∧ 0 ≤ a ∧ a < n
 ·by_cases d : ok n E ∧ 0 ≤ b ∧ b < n
  ·have h1 : ∀ v : Bool, ∃ m F t, Ev (fun k => spec_NetAdd.j0 k a b v n E) (m, F, t) ∧ F.length ≤ E.length + 1 ∧ (m = n ∨ m = 0) := by
    intro v
    cases v with
    | true => exact ⟨0, [], false, no, by simp, .inr rfl⟩
    | false =>
     obtain ⟨F, e1, e2⟩ := add_l0 n n (tieOf a b).f0 (tieOf a b).f1 E [] [] false hE (by simp)
     refine ⟨n, F, true, ?_, e2, .inl rfl⟩
     exact Ev.step (fun k => by simp only [spec_NetAdd.j0, Bool.false_eq_true, if_false, l1Tie_eq, Option.bind_some] <;> exact rfl) e1
   by_cases e : a = b
   ·obtain ⟨m, F, t, e1, e2⟩ := h1 true
    refine ⟨m, F, t, Ev.bind (l1Knot_ev n a E hb) ?_, e2⟩
    simp only [c, and_self, decide_true, if_true]
    refine Ev.bind (l1Knot_ev n b E hb) ?_
    simp only [d, and_self, decide_true, if_true, if_pos e]
    exact e1
   ·obtain ⟨m, F, t, e1, e2⟩ := h1 (decide (ok n E ∧ tieOf a b ∈ E))
    refine ⟨m, F, t, Ev.bind (l1Knot_ev n a E hb) ?_, e2⟩
    simp only [c, and_self, decide_true, if_true]
    refine Ev.bind (l1Knot_ev n b E hb) ?_
    simp only [d, and_self, decide_true, if_true, if_neg e]
    exact Ev.bind (specHas_ev n a b E hb) e1
  ·refine ⟨0, [], false, Ev.bind (l1Knot_ev n a E hb) ?_, by simp, .inr rfl⟩
   simp only [c, and_self, decide_true, if_true]
   refine Ev.bind (l1Knot_ev n b E hb) ?_
   simp only [d, decide_false, Bool.false_eq_true, if_false]
   exact no
 ·refine ⟨0, [], false, Ev.bind (l1Knot_ev n a E hb) ?_, by simp, .inr rfl⟩
  simp only [c, decide_false, Bool.false_eq_true, if_false]
  exact no
end Go.Proofs.Ytddadihobjinhaa.P
namespace Go.Proofs.Ytddadihobjinhaa.P
open Go.RowKit Go.Proofs.YtddadihobjinhaaW.PrintWords Go.Proofs.Ytddadihobjinhaa.G
theorem dnet_l2 (s : List Int) (hs : octs s) (hl : s.length ≤ 2000) : ∀ (d : Nat) (p n : Int) (E : List S53), d ≤ 20 → 0 ≤ p → p + 2 * d ≤ 80000 → 0 ≤ n → n ≤ 8 → E.length + d ≤ 1000 →
  ∃ r, Ev (fun k => spec_l71Net.l2 k (d : Int) s p n E) r ∧ Drawn 0 8 (E.length + d) (2 * d) p r := by
 intro d
 induction d with
 | zero =>
  intro p n E hd h0 h1 n0 n1 hE
  refine ⟨(n, E, p), ?_, by simp [Drawn]; omega⟩
  have c : ¬ (0 : Int) > 0 := by omega
  refine Ev.step (fun k => by simp only [spec_l71Net.l2, Int.natCast_zero, if_neg c] <;> exact rfl) ?_
  exact Ev.step (fun k => by simp only [spec_l71Net.j4, Bool.false_eq_true, if_false] <;> exact rfl) (Ev.val rfl)
 | succ d ih =>
  intro p n E hd h0 h1 n0 n1 hE
  have c : ((d + 1 : Nat) : Int) > 0 := by omega
  have w : wrap64 (((d + 1 : Nat) : Int) - 1) = (d : Int) := by rw [w64 (by omega) (by omega)]; omega
  by_cases m : n > 1
  ·obtain ⟨v, v1, _⟩ := pick_ev s hs hl p n h0 (by omega)
   obtain ⟨u, u1, _⟩ := pick_ev s hs hl (p + 1) n (by omega) (by omega)
   obtain ⟨m', F, t, a1, a2, a3⟩ := add_ev n v u E (by omega)
   have step : ∀ r, Ev (fun k => if t = true then spec_l71Net.l2 k (d : Int) s (p + 1 + 1) m' F else spec_l71Net.l2 k (d : Int) s (p + 1 + 1) n E) r → Ev (fun k => spec_l71Net.l2 k ((d + 1 : Nat) : Int) s p n E) r := by
    intro r hr
    refine Ev.step (fun k => by simp only [spec_l71Net.l2, if_pos c, decide_eq_true m] <;> exact rfl) ?_
    refine Ev.step (fun k => by simp only [spec_l71Net.j4, if_true, w] <;> exact rfl) ?_
    exact Ev.bind v1 (Ev.bind u1 (Ev.bind a1 hr))
   cases t with
   | true =>
    obtain ⟨r, r1, r2⟩ := ih (p + 1 + 1) m' F (by omega) (by omega) (by omega) (by omega) (by omega) (by omega)
    exact ⟨r, step r (by simp only [if_true]; exact r1), by unfold Drawn at *; omega⟩
   | false =>
    obtain ⟨r, r1, r2⟩ := ih (p + 1 + 1) n E (by omega) (by omega) (by omega) (by omega) (by omega) (by omega)
    exact ⟨r, step r (by simp only [Bool.false_eq_true, if_false]; exact r1), by unfold Drawn at *; omega⟩
  ·refine ⟨(n, E, p), ?_, by simp [Drawn]; omega⟩
   refine Ev.step (fun k => by simp only [spec_l71Net.l2, if_pos c, decide_eq_false m] <;> exact rfl) ?_
   exact Ev.step (fun k => by simp only [spec_l71Net.j4, Bool.false_eq_true, if_false] <;> exact rfl) (Ev.val rfl)
theorem dnet_j2 (s : List Int) (hs : octs s) (hl : s.length ≤ 2000) (p n : Int) (E : List S53) (h0 : 0 ≤ p) (h1 : p ≤ 75000) (n0 : 0 ≤ n) (n1 : n ≤ 8) (hE : E.length ≤ 20) :
  ∃ r, Ev (fun k => spec_l71Net.j2 k s p n E) r ∧ Drawn 0 8 40 30 p r := by
 obtain ⟨v, v1, v2, v3⟩ := pick_ev s hs hl p 13 h0 (by omega)
 obtain ⟨r, r1, r2⟩ := dnet_l2 s hs hl v.toNat (p + 1) n E (by omega) (by omega) (by omega) n0 n1 (by omega)
 rw [Int.toNat_of_nonneg v2] at r1
 refine ⟨r, Ev.step (fun k => by simp only [spec_l71Net.j2] <;> exact rfl) (Ev.bind v1 r1), by unfold Drawn at *; omega⟩
theorem dnet_l0 (s : List Int) (hs : octs s) (hl : s.length ≤ 2000) : ∀ (d : Nat) (i p n : Int) (E : List S53), i + d = 9 → 0 ≤ i → 0 ≤ p → p + d ≤ 70000 → 0 ≤ n → n ≤ 8 → (E.length : Int) ≤ i →
  ∃ r, Ev (fun k => spec_l71Net.l0 k i s p n E) r ∧ Drawn 0 8 40 (30 + d) p r := by
 intro d
 induction d with
 | zero =>
  intro i p n E hi i0 h0 h1 n0 n1 hE
  obtain ⟨r, r1, r2⟩ := dnet_j2 s hs hl p n E h0 (by omega) n0 n1 (by omega)
  have c : ¬ i < n := by omega
  exact ⟨r, Ev.step (fun k => by simp only [spec_l71Net.l0, if_neg c] <;> exact rfl) r1, by unfold Drawn at *; omega⟩
 | succ d ih =>
  intro i p n E hi i0 h0 h1 n0 n1 hE
  by_cases c : i < n
  ·obtain ⟨v, v1, _⟩ := pick_ev s hs hl p i h0 (by omega)
   obtain ⟨m', F, t, a1, a2, a3⟩ := add_ev n i v E (by omega)
   obtain ⟨r, r1, r2⟩ := ih (i + 1) (p + 1) m' F (by omega) (by omega) (by omega) (by omega) (by omega) (by omega) (by omega)
   refine ⟨r, Ev.step (fun k => by simp only [spec_l71Net.l0, if_pos c, w64 (x := i + 1) (by omega) (by omega)] <;> exact rfl) (Ev.bind v1 (Ev.bind a1 r1)), by unfold Drawn at *; omega⟩
  ·obtain ⟨r, r1, r2⟩ := dnet_j2 s hs hl p n E h0 (by omega) n0 n1 (by omega)
   exact ⟨r, Ev.step (fun k => by simp only [spec_l71Net.l0, if_neg c] <;> exact rfl) r1, by unfold Drawn at *; omega⟩
theorem dnet_l1 (s : List Int) (hs : octs s) (hl : s.length ≤ 2000) : ∀ (d : Nat) (i p n : Int) (E : List S53), i + d = 9 → 0 ≤ i → 0 ≤ p → p ≤ 70000 → 0 ≤ n → n ≤ 8 → (E.length : Int) ≤ i →
  ∃ r, Ev (fun k => spec_l71Net.l1 k i s p n E) r ∧ Drawn 0 8 40 (30 + d) p r := by
 intro d
 induction d with
 | zero =>
  intro i p n E hi i0 h0 h1 n0 n1 hE
  obtain ⟨r, r1, r2⟩ := dnet_j2 s hs hl p n E h0 (by omega) n0 n1 (by omega)
  have c : ¬ i < n := by omega
  exact ⟨r, Ev.step (fun k => by simp only [spec_l71Net.l1, if_neg c] <;> exact rfl) r1, by unfold Drawn at *; omega⟩
 | succ d ih =>
  intro i p n E hi i0 h0 h1 n0 n1 hE
  by_cases c : i < n
  ·by_cases c2 : n > 2
   ·have c3 : ¬ n = 0 := by omega
    obtain ⟨m', F, t, a1, a2, a3⟩ := add_ev n i (Int.tmod (i + 1) n) E (by omega)
    obtain ⟨r, r1, r2⟩ := ih (i + 1) p m' F (by omega) (by omega) (by omega) (by omega) (by omega) (by omega) (by omega)
    refine ⟨r, Ev.step (fun k => by simp only [spec_l71Net.l1, if_pos c, if_pos c2, if_neg c3, w64 (x := i + 1) (by omega) (by omega)] <;> exact rfl) (Ev.bind a1 r1), by unfold Drawn at *; omega⟩
   ·obtain ⟨r, r1, r2⟩ := dnet_j2 s hs hl p n E h0 (by omega) n0 n1 (by omega)
    exact ⟨r, Ev.step (fun k => by simp only [spec_l71Net.l1, if_pos c, if_neg c2] <;> exact rfl) r1, by unfold Drawn at *; omega⟩
  ·obtain ⟨r, r1, r2⟩ := dnet_j2 s hs hl p n E h0 (by omega) n0 n1 (by omega)
   exact ⟨r, Ev.step (fun k => by simp only [spec_l71Net.l1, if_neg c] <;> exact rfl) r1, by unfold Drawn at *; omega⟩
theorem dnet_ev (s : List Int) (hs : octs s) (hl : s.length ≤ 2000) (p : Int) (h0 : 0 ≤ p) (h1 : p ≤ 60000) :
  ∃ r, Ev (fun k => spec_l71Net.f k s p) r ∧ Drawn 0 8 40 50 p r := by
 obtain ⟨v, v1, v2, v3⟩ := pick_ev s hs hl p 8 h0 (by omega)
 obtain ⟨u, u1, u2, u3⟩ := pick_ev s hs hl (p + 1) 6 (by omega) (by omega)
 have w : wrap64 (1 + v) = 1 + v := w64 (by omega) (by omega)
 unfold spec_l71Net.f
 by_cases c : u = 0
 ·obtain ⟨r, r1, r2⟩ := dnet_l0 s hs hl 8 1 (p + 1 + 1) (1 + v) [] (by omega) (by omega) (by omega) (by omega) (by omega) (by omega) (by simp)
  refine ⟨r, Ev.bind v1 (Ev.bind u1 ?_), by unfold Drawn at *; omega⟩
  simp only [w, if_pos c]
  exact r1
 ·by_cases d : u = 1
  ·obtain ⟨r, r1, r2⟩ := dnet_l1 s hs hl 9 0 (p + 1 + 1) (1 + v) [] (by omega) (by omega) (by omega) (by omega) (by omega) (by omega) (by simp)
   refine ⟨r, Ev.bind v1 (Ev.bind u1 ?_), by unfold Drawn at *; omega⟩
   simp only [w, if_neg c, if_pos d]
   exact r1
  ·obtain ⟨r, r1, r2⟩ := dnet_j2 s hs hl (p + 1 + 1) (1 + v) [] (by omega) (by omega) (by omega) (by omega) (by simp)
   refine ⟨r, Ev.bind v1 (Ev.bind u1 ?_), by unfold Drawn at *; omega⟩
   simp only [w, if_neg c, if_neg d]
   exact r1
theorem spoil_ev (s : List Int) (hs : octs s) (hl : s.length ≤ 2000) (p n : Int) (E : List S53) (h0 : 0 ≤ p) (h1 : p ≤ 70000) (n0 : 0 ≤ n) (n1 : n ≤ 8) (hE : E.length ≤ 40) :
  ∃ r, Ev (fun k => spec_l71Spoil.f k s p n E) r ∧ Drawn (-1) 9 50 5 p r := by
 obtain ⟨v, v1, v2, v3⟩ := pick_ev s hs hl p 6 h0 (by omega)
 have q8 : E.length < 8796093022208 := by omega
 have q9 : ([(⟨-1, 0⟩ : S53)] : List S53).length + E.length < 8796093022208 := by simp; omega
 unfold spec_l71Spoil.f
 simp only [copy_eq n E (by omega), Option.bind_some, if_pos q8, if_pos q9]
 by_cases c0 : v = 0
 ·obtain ⟨u, u1, u2, u3⟩ := pick_ev s hs hl (p + 1) 5 (by omega) (by omega)
  have g : u < ((([(-1), 0, 1, 8, 9] : List Int)).length : Int) := by show u < 5; omega
  have b : -1 ≤ rd [(-1), 0, 1, 8, 9] u ∧ rd [(-1), 0, 1, 8, 9] u ≤ 9 := by
   have : u = 0 ∨ u = 1 ∨ u = 2 ∨ u = 3 ∨ u = 4 := by omega
   rcases this with rfl | rfl | rfl | rfl | rfl <;> decide
  refine ⟨(rd [(-1), 0, 1, 8, 9] u, E, p + 1 + 1), Ev.bind v1 ?_, by simp [Drawn]; omega⟩
  simp only [if_pos c0]
  refine Ev.bind u1 ?_
  simp only [if_pos u2, if_pos g]
  exact Ev.val rfl
 by_cases c1 : v = 1
 ·obtain ⟨u, u1, u2, u3⟩ := pick_ev s hs hl (p + 1) 3 (by omega) (by omega)
  obtain ⟨t, t1, t2, t3⟩ := pick_ev s hs hl (p + 1 + 1) 3 (by omega) (by omega)
  refine ⟨(n, E ++ [⟨u, t⟩], p + 1 + 1 + 1), Ev.bind v1 ?_, by simp [Drawn]; omega⟩
  simp only [if_neg c0, if_pos c1]
  exact Ev.bind u1 (Ev.bind t1 (Ev.val rfl))
 by_cases c2 : v = 2
 ·refine ⟨(n, E ++ [⟨wrap64 (n - 1), n⟩], p + 1), Ev.bind v1 ?_, by simp [Drawn]; omega⟩
  simp only [if_neg c0, if_neg c1, if_pos c2]
  exact Ev.val rfl
 by_cases c3 : v = 3
 ·by_cases d : (E.length : Int) > 0
  ·obtain ⟨u, u1, u2, u3⟩ := pick_ev s hs hl (p + 1) (E.length : Int) (by omega) (by omega)
   have g : u < (E.length : Int) := by omega
   refine ⟨(n, E.set u.toNat ⟨(rd_T53 E u).f1, (rd_T53 E u).f0⟩, p + 1 + 1), Ev.bind v1 ?_, by simp [Drawn]; omega⟩
   simp only [if_neg c0, if_neg c1, if_neg c2, if_pos c3, if_pos d]
   refine Ev.bind u1 ?_
   simp only [if_pos u2, if_pos g]
   exact Ev.val rfl
  ·refine ⟨(n, E, p + 1), Ev.bind v1 ?_, by simp [Drawn]; omega⟩
   simp only [if_neg c0, if_neg c1, if_neg c2, if_pos c3, if_neg d]
   exact Ev.val rfl
 by_cases c4 : v = 4
 ·by_cases d : (E.length : Int) > 1
  ·have d0 : 0 < (E.length : Int) := by omega
   refine ⟨(n, E ++ [⟨(rd_T53 E 0).f0, (rd_T53 E 0).f1⟩], p + 1), Ev.bind v1 ?_, by simp [Drawn]; omega⟩
   simp only [if_neg c0, if_neg c1, if_neg c2, if_neg c3, if_pos c4, if_pos d, if_pos d0]
   exact Ev.val rfl
  ·refine ⟨(n, E, p + 1), Ev.bind v1 ?_, by simp [Drawn]; omega⟩
   simp only [if_neg c0, if_neg c1, if_neg c2, if_neg c3, if_pos c4, if_neg d]
   exact Ev.val rfl
 ·refine ⟨(n, [⟨-1, 0⟩] ++ E, p + 1), Ev.bind v1 ?_, by simp [Drawn]; omega⟩
  simp only [if_neg c0, if_neg c1, if_neg c2, if_neg c3, if_neg c4]
  exact Ev.val rfl
theorem any_ev (s : List Int) (hs : octs s) (hl : s.length ≤ 2000) (p : Int) (h0 : 0 ≤ p) (h1 : p ≤ 60000) :
  ∃ r, Ev (fun k => spec_l71Any.f k s p) r ∧ Drawn (-1) 9 50 60 p r := by
 obtain ⟨⟨n, E, q⟩, r1, r2⟩ := dnet_ev s hs hl p h0 h1
 simp only [Drawn] at r2
 obtain ⟨v, v1, v2, v3⟩ := pick_ev s hs hl q 12 (by omega) (by omega)
 unfold spec_l71Any.f
 by_cases c : v = 0
 ·obtain ⟨r, s1, s2⟩ := spoil_ev s hs hl (q + 1) n E (by omega) (by omega) (by omega) (by omega) (by omega)
  refine ⟨r, Ev.bind r1 (Ev.bind v1 ?_), by unfold Drawn at *; omega⟩
  simp only [if_pos c]
  exact Ev.bind s1 (Ev.val rfl)
 ·refine ⟨(n, E, q + 1), Ev.bind r1 (Ev.bind v1 ?_), by simp [Drawn]; omega⟩
  simp only [if_neg c]
  exact Ev.val rfl
end Go.Proofs.Ytddadihobjinhaa.P
namespace Go.Proofs.Ytddadihobjinhaa.P
open Go.RowKit Go.Proofs.YtddadihobjinhaaW.PrintWords Go.Proofs.Ytddadihobjinhaa.G
theorem half_l0 (s : List Int) (hs : octs s) (hl : s.length ≤ 2000) : ∀ (d : Nat) (p n : Int) (E : List S53), d ≤ 20 → 0 ≤ p → p + 2 * d ≤ 70000 → 0 ≤ n → n ≤ 8 → E.length + d ≤ 1000 →
  ∃ r, Ev (fun k => spec_l71Half.l0 k (d : Int) s p n E) r ∧ Drawn 0 8 (E.length + d) (2 * d) p r := by
 intro d
 induction d with
 | zero =>
  intro p n E _ h0 h1 n0 n1 hE
  have c : ¬ ((0 : Nat) : Int) > 0 := by omega
  refine ⟨(n, E, p), Ev.step (fun k => by simp only [spec_l71Half.l0, if_neg c] <;> exact rfl) (Ev.val rfl), by unfold Drawn; simp; omega⟩
 | succ d ih =>
  intro p n E hd h0 h1 n0 n1 hE
  obtain ⟨v, v1, v2, v3⟩ := pick_ev s hs hl p n h0 (by omega)
  obtain ⟨u, u1, u2, u3⟩ := pick_ev s hs hl (p + 1) n (by omega) (by omega)
  obtain ⟨m, F, t, a1, a2, a3⟩ := add_ev n v u E (by omega)
  have c : ((d + 1 : Nat) : Int) > 0 := by omega
  have w : wrap64 (((d + 1 : Nat) : Int) - 1) = (d : Int) := by rw [w64 (by omega) (by omega)]; omega
  obtain ⟨r, r1, r2⟩ := ih (p + 1 + 1) n E (by omega) (by omega) (by omega) n0 n1 (by omega)
  obtain ⟨q, q1, q2⟩ := ih (p + 1 + 1) m F (by omega) (by omega) (by omega) (by omega) (by omega) (by omega)
  by_cases ct : t = true
  ·by_cases cm : Int.tmod (wrap64 (v + u)) 2 = 1
   ·refine ⟨q, Ev.step (fun k => by simp only [spec_l71Half.l0, if_pos c] <;> exact rfl) (Ev.bind v1 (Ev.bind u1 (Ev.bind a1 ?_))), by unfold Drawn at *; omega⟩
    simp only [if_pos ct, if_pos cm, w]
    exact q1
   ·refine ⟨r, Ev.step (fun k => by simp only [spec_l71Half.l0, if_pos c] <;> exact rfl) (Ev.bind v1 (Ev.bind u1 (Ev.bind a1 ?_))), by unfold Drawn at *; omega⟩
    simp only [if_pos ct, if_neg cm, w]
    exact r1
  ·refine ⟨r, Ev.step (fun k => by simp only [spec_l71Half.l0, if_pos c] <;> exact rfl) (Ev.bind v1 (Ev.bind u1 (Ev.bind a1 ?_))), by unfold Drawn at *; omega⟩
   simp only [if_neg ct, w]
   exact r1
theorem half_ev (s : List Int) (hs : octs s) (hl : s.length ≤ 2000) (p : Int) (h0 : 0 ≤ p) (h1 : p ≤ 50000) :
  ∃ r, Ev (fun k => spec_l71Half.f k s p) r ∧ Drawn (-1) 9 50 70 p r := by
 obtain ⟨v, v1, v2, v3⟩ := pick_ev s hs hl p 3 h0 (by omega)
 unfold spec_l71Half.f
 by_cases c : v = 0
 ·obtain ⟨r, r1, r2⟩ := any_ev s hs hl (p + 1) (by omega) (by omega)
  refine ⟨r, Ev.bind v1 ?_, by unfold Drawn at *; omega⟩
  simp only [if_pos c]
  exact Ev.bind r1 (Ev.val rfl)
 ·obtain ⟨u, u1, u2, u3⟩ := pick_ev s hs hl (p + 1) 7 (by omega) (by omega)
  obtain ⟨t, t1, t2, t3⟩ := pick_ev s hs hl (p + 1 + 1) 12 (by omega) (by omega)
  have w1 : wrap64 (3 + t) = ((3 + t.toNat : Nat) : Int) := by rw [w64 (by omega) (by omega)]; omega
  have w2 : wrap64 (2 + u) = 2 + u := w64 (by omega) (by omega)
  obtain ⟨r, r1, r2⟩ := half_l0 s hs hl (3 + t.toNat) (p + 1 + 1 + 1) (2 + u) [] (by omega) (by omega) (by omega) (by omega) (by omega) (by simp; omega)
  refine ⟨r, Ev.bind v1 ?_, by unfold Drawn at *; simp at r2; omega⟩
  simp only [if_neg c]
  refine Ev.bind u1 (Ev.bind t1 ?_)
  simp only [w1, w2]
  exact r1
end Go.Proofs.Ytddadihobjinhaa.P
namespace Go.Proofs.Ytddadihobjinhaa.P
open Go.RowKit Go.Proofs.YtddadihobjinhaaW.PrintWords Go.Proofs.Ytddadihobjinhaa.G
theorem loInts_l0 : ∀ (suf pre : List Int), ((pre ++ suf).length : Int) < big → Ev (fun k => laws_loInts.l0 k (pre ++ suf) (pre ++ suf) (pre.length : Int)) true := by
 intro suf
 induction suf with
 | nil =>
  intro pre hb
  exact Ev.step (fun k => by simp only [laws_loInts.l0, nlt_end, if_false] <;> exact rfl) (Ev.val rfl)
 | cons t suf ih =>
  intro pre hb
  refine Ev.step (fun k => by simp only [laws_loInts.l0, lt_mid, nn, if_true, w_succ (t := t) (len_mid hb)] <;> exact rfl) ?_
  rw [app_one pre t suf]
  exact ih (pre ++ [t]) (len_app hb)
theorem loInts_refl (L : List Int) (hb : (L.length : Int) < big) : Ev (fun k => laws_loInts.f k L L) true := by
 unfold laws_loInts.f
 simp only [if_true]
 exact loInts_l0 L [] hb
end Go.Proofs.Ytddadihobjinhaa.P
namespace Go.Proofs.Ytddadihobjinhaa.P
open Go.RowKit Go.Proofs.YtddadihobjinhaaW.PrintWords Go.Proofs.Ytddadihobjinhaa.G
def walkOk (n : Int) (E : List Tie) (row : List Int) : Prop := (∀ v ∈ row, 0 ≤ v ∧ v < n) ∧ ∀ t ∈ ties row, t ∈ E
instance (n : Int) (E : List Tie) (row : List Int) : Decidable (walkOk n E row) := by unfold walkOk; infer_instance
theorem walk_l1 (n : Int) (E : List S53) (hE : (E.length : Int) < big) : ∀ (suf q : List Int) (a : Int), ((q ++ a :: suf).length : Int) < big →
  Ev (fun k => impl_Net_walk.l0 k (q ++ a :: suf) (q ++ a :: suf) ((q ++ a :: suf).length : Int) ((q.length : Int) + 1) n E) (decide ((∀ v ∈ suf, 0 ≤ v ∧ v < n) ∧ ∀ t ∈ ties (a :: suf), t ∈ E)) := by
 intro suf
 induction suf with
 | nil =>
  intro q a hb
  have c : ¬ (q.length : Int) + 1 < ((q ++ [a]).length : Int) := by simp
  refine Ev.step (fun k => by simp only [impl_Net_walk.l0, if_neg c] <;> exact rfl) (Ev.val ?_)
  simp [ties]
 | cons t suf ih =>
  intro q a hb
  have hl : (q ++ a :: t :: suf).length = q.length + (suf.length + 2) := by simp
  have hb2 : (q.length : Int) + (suf.length + 2) < 4611686018427387904 := by unfold big at hb; omega
  have c1 : (q.length : Int) + 1 < ((q ++ a :: t :: suf).length : Int) := by omega
  have c2 : 0 ≤ (q.length : Int) + 1 := by omega
  have c3 : (q.length : Int) + 1 > 0 := by omega
  have w1 : wrap64 ((q.length : Int) + 1 - 1) = (q.length : Int) := by rw [w64 (by omega) (by omega)]; omega
  have c4 : 0 ≤ (q.length : Int) := nn _
  have c5 : (q.length : Int) < ((q ++ a :: t :: suf).length : Int) := by omega
  have r1 : rd (q ++ a :: t :: suf) ((q.length : Int) + 1) = t := by
   have := rd_mid (q ++ [a]) t suf
   simpa using this
  have r2 : rd (q ++ a :: t :: suf) (q.length : Int) = a := rd_mid q a (t :: suf)
  have w2 : wrap64 ((q.length : Int) + 1 + 1) = ((q ++ [a]).length : Int) + 1 := by rw [w64 (by omega) (by omega)]; simp
  refine Ev.step (fun k => by simp only [impl_Net_walk.l0, if_pos c1, if_pos c2, r1, knot_eq, Option.bind_some] <;> exact rfl) ?_
  by_cases k1 : 0 ≤ t ∧ t < n
  ·rw [decide_eq_true k1]
   simp only [if_true, if_pos c3, w1, if_pos c4, if_pos c5, r2]
   refine Ev.bind (has_ev n a t E hE) ?_
   by_cases k2 : tieOf a t ∈ E
   ·rw [decide_eq_true k2]
    simp only [if_true, w2]
    have := ih (q ++ [a]) t (by simpa using hb)
    have e : (q ++ [a]) ++ t :: suf = q ++ a :: t :: suf := by simp
    rw [e] at this
    refine Ev.eq this ?_
    refine decide_eq_decide.2 ⟨fun h => ⟨fun v hv => ?_, fun s hs => ?_⟩, fun h => ⟨fun v hv => h.1 v (by simp [hv]), fun s hs => h.2 s (by simp [ties, hs])⟩⟩
    ·rcases List.mem_cons.1 hv with rfl | hv
     ·exact k1
     ·exact h.1 v hv
    ·simp only [ties, List.mem_cons] at hs
     rcases hs with rfl | hs
     ·exact k2
     ·exact h.2 s hs
   ·rw [decide_eq_false k2]
    simp only [Bool.false_eq_true, if_false]
    exact Ev.val (congrArg some (decide_eq_false (fun h => k2 (h.2 _ (by simp [ties])))).symm)
  ·rw [decide_eq_false k1]
   simp only [Bool.false_eq_true, if_false]
   exact Ev.val (congrArg some (decide_eq_false (fun h => k1 (h.1 t (by simp)))).symm)
theorem walk_ev (n : Int) (E : List S53) (row : List Int) (hE : (E.length : Int) < big) (hr : (row.length : Int) < big) : Ev (fun k => impl_Net_walk.f k n E row) (decide (walkOk n E row)) := by
 unfold impl_Net_walk.f walkOk
 cases row with
 | nil =>
  have c : ¬ (0 : Int) < (([] : List Int).length : Int) := by simp
  exact Ev.step (fun k => by simp only [impl_Net_walk.l0, if_neg c] <;> exact rfl) (Ev.val (by simp [ties]))
 | cons a suf =>
  have c1 : (0 : Int) < ((a :: suf).length : Int) := by rw [List.length_cons]; omega
  have c3 : ¬ (0 : Int) > 0 := by omega
  have r1 : rd (a :: suf) 0 = a := rfl
  have w2 : wrap64 (0 + 1) = 1 := by rw [w64 (by omega) (by omega)]; rfl
  refine Ev.step (fun k => by simp only [impl_Net_walk.l0, if_pos c1, Int.le_refl, if_true, r1, knot_eq, Option.bind_some] <;> exact rfl) ?_
  by_cases k1 : 0 ≤ a ∧ a < n
  ·rw [decide_eq_true k1]
   simp only [if_true, if_neg c3, w2]
   have := walk_l1 n E hE suf [] a (by simpa using hr)
   simp only [List.nil_append, List.length_nil] at this
   refine Ev.eq this ?_
   refine decide_eq_decide.2 ⟨fun h => ⟨fun v hv => ?_, h.2⟩, fun h => ⟨fun v hv => h.1 v (by simp [hv]), h.2⟩⟩
   rcases List.mem_cons.1 hv with rfl | hv
   ·exact k1
   ·exact h.1 v hv
  ·rw [decide_eq_false k1]
   simp only [Bool.false_eq_true, if_false]
   exact Ev.val (congrArg some (decide_eq_false (fun h => k1 (h.1 a (by simp)))).symm)
theorem diff_l0 : ∀ (suf p : List Int), ((p ++ suf).length : Int) < big → p.Nodup →
  Ev (fun k => impl_different.l0 k (p ++ suf) (p ++ suf) ((p ++ suf).length : Int) (p.length : Int)) (decide (p ++ suf).Nodup) := by
 intro suf
 induction suf with
 | nil =>
  intro p hb hp
  refine Ev.step (fun k => by simp only [impl_different.l0, nlt_end, if_false] <;> exact rfl) (Ev.val ?_)
  simp [hp]
 | cons t suf ih =>
  intro p hb hp
  have hl : (p.length : Int) < big := len_mid hb
  have c : (p.length : Int) ≤ ((p ++ t :: suf).length : Int) := by have := lt_mid p t suf; omega
  have et : (p ++ t :: suf).take ((p.length : Int)).toNat = p := by simp
  refine Ev.step (fun k => by simp only [impl_different.l0, lt_mid, nn, if_true, rd_mid, if_pos c, et] <;> exact rfl) ?_
  refine Ev.bind (containsInt_ev p t hl) ?_
  by_cases k : t ∈ p
  ·rw [decide_eq_true k]
   simp only [if_true]
   refine Ev.val (congrArg some (decide_eq_false (fun h => ?_)).symm)
   rw [List.nodup_append] at h
   exact h.2.2 t k t (by simp) rfl
  ·rw [decide_eq_false k]
   simp only [Bool.false_eq_true, if_false, w_succ (t := t) hl]
   rw [app_one p t suf]
   refine ih (p ++ [t]) (by rw [← app_one]; exact hb) ?_
   rw [List.nodup_append]
   exact ⟨hp, by simp, fun x hx y hy e => by rw [List.mem_singleton] at hy; subst hy; subst e; exact k hx⟩
theorem diff_ev (row : List Int) (hr : (row.length : Int) < big) : Ev (fun k => impl_different.f k row) (decide row.Nodup) := by
 unfold impl_different.f
 exact diff_l0 row [] hr (by simp)
theorem wayOk_ev (n : Int) (E : List S53) (row : List Int) (hE : (E.length : Int) < big) (hr : (row.length : Int) < big) : Ev (fun k => impl_WayOk.f k n E row) (decide (ok n E ∧ row ≠ [] ∧ walkOk n E row ∧ row.Nodup)) := by
 unfold impl_WayOk.f
 refine Ev.bind (implOk n E hE) ?_
 by_cases c : ok n E
 ·rw [decide_eq_true c]
  simp only [if_true]
  by_cases d : (row.length : Int) > 0
  ·have d' : row ≠ [] := fun e => by rw [e] at d; simp at d
   simp only [if_pos d]
   refine Ev.bind (walk_ev n E row hE hr) ?_
   by_cases e : walkOk n E row
   ·rw [decide_eq_true e]
    simp only [if_true]
    refine Ev.bind (diff_ev row hr) (Ev.val ?_)
    simp [c, d', e]
   ·rw [decide_eq_false e]
    simp only [Bool.false_eq_true, if_false]
    exact Ev.val (by simp [e])
  ·have d' : row = [] := List.eq_nil_of_length_eq_zero (by omega)
   simp only [if_neg d]
   exact Ev.val (by simp [d'])
 ·rw [decide_eq_false c]
  simp only [Bool.false_eq_true, if_false]
  exact Ev.val (by simp [c])
theorem way_walkOk {n a b : Int} {E : List Tie} (hE : ∀ t ∈ E, inr n t) (ha : 0 ≤ a ∧ a < n) {p : List Int} (h : isWay E a b p) : p ≠ [] ∧ walkOk n E p ∧ p.Nodup :=
 ⟨fun e => by have := h.head; rw [e] at this; simp at this, ⟨way_knots hE ha h, h.ties⟩, h.nodup⟩
end Go.Proofs.Ytddadihobjinhaa.P
namespace Go.Proofs.Ytddadihobjinhaa.P
open Go.RowKit Go.Proofs.YtddadihobjinhaaW.PrintWords Go.Proofs.Ytddadihobjinhaa.G
theorem dsodd_l0 (s : List Int) (hs : octs s) (hl : s.length ≤ 2000) : ∀ (d : Nat) (i p n : Int) (E : List S53), i + d = 8 → 0 ≤ i → 0 ≤ p → p + 70 * d ≤ 40000 → E.length ≤ 50 →
  ∃ m F, Ev (fun k => spec_DrawSideOdd.l0 k i s p n E) (m, F) ∧ F.length ≤ 50 := by
 intro d
 induction d with
 | zero =>
  intro i p n E hi i0 h0 h1 hE
  have c : ¬ i < 8 := by omega
  refine ⟨n, E, Ev.step (fun k => by simp only [spec_DrawSideOdd.l0, if_neg c] <;> exact rfl) ?_, hE⟩
  exact Ev.step (fun k => by simp only [spec_DrawSideOdd.j1, Bool.false_eq_true, if_false] <;> exact rfl) (Ev.val rfl)
 | succ d ih =>
  intro i p n E hi i0 h0 h1 hE
  obtain ⟨v, v1, v2, v3⟩ := pick_ev s hs hl p 6 h0 (by omega)
  obtain ⟨⟨m, F, q⟩, r1, r2⟩ := any_ev s hs hl (p + 1) (by omega) (by omega)
  simp only [Drawn] at r2
  have c : i < 8 := by omega
  have w : wrap64 (i + 1) = i + 1 := w64 (by omega) (by omega)
  by_cases g : v > 0
  ·cases o : (sideOddG m F).2 with
   | true =>
    refine ⟨m, F, Ev.step (fun k => by simp only [spec_DrawSideOdd.l0, if_pos c] <;> exact rfl) (Ev.bind v1 ?_), by omega⟩
    rw [decide_eq_true g]
    refine Ev.step (fun k => by simp only [spec_DrawSideOdd.j1, if_true] <;> exact rfl) ?_
    refine Ev.bind r1 (Ev.bind (sideOddSpec m F (by unfold big; omega)) ?_)
    simp only [o, if_true]
    exact Ev.val rfl
   | false =>
    obtain ⟨m2, F2, t1, t2⟩ := ih (i + 1) q m F (by omega) (by omega) (by omega) (by omega) (by omega)
    refine ⟨m2, F2, Ev.step (fun k => by simp only [spec_DrawSideOdd.l0, if_pos c] <;> exact rfl) (Ev.bind v1 ?_), t2⟩
    rw [decide_eq_true g]
    refine Ev.step (fun k => by simp only [spec_DrawSideOdd.j1, if_true] <;> exact rfl) ?_
    refine Ev.bind r1 (Ev.bind (sideOddSpec m F (by unfold big; omega)) ?_)
    simp only [o, Bool.false_eq_true, if_false, w]
    exact t1
  ·refine ⟨n, E, Ev.step (fun k => by simp only [spec_DrawSideOdd.l0, if_pos c] <;> exact rfl) (Ev.bind v1 ?_), hE⟩
   rw [decide_eq_false g]
   exact Ev.step (fun k => by simp only [spec_DrawSideOdd.j1, Bool.false_eq_true, if_false] <;> exact rfl) (Ev.val rfl)
theorem drawSideOdd_ev (l : List Int) (h : octs l) : ∃ n E, Ev (fun k => spec_DrawSideOdd.f k l) (n, E) ∧ E.length ≤ 50 := by
 obtain ⟨s, o1, o2, o3⟩ := open_eq l h
 obtain ⟨⟨n, E, q⟩, r1, r2⟩ := half_ev s o2 o3 0 (by omega) (by omega)
 simp only [Drawn] at r2
 obtain ⟨m, F, t1, t2⟩ := dsodd_l0 s o2 o3 8 0 q n E (by omega) (by omega) (by omega) (by omega) (by omega)
 refine ⟨m, F, ?_, t2⟩
 unfold spec_DrawSideOdd.f
 simp only [o1, Option.bind_some]
 exact Ev.bind r1 t1
theorem hasN_ev (n a b : Int) (E : List S53) (hE : (E.length : Int) < big) : Ev (fun k => impl_NetHas.f k n E a b) (decide (ok n E ∧ tieOf a b ∈ E)) := by
 unfold impl_NetHas.f
 refine Ev.bind (implOk n E hE) ?_
 by_cases c : ok n E
 ·simp only [c, decide_true, if_true]
  refine Ev.bind (has_ev n a b E hE) ?_
  exact Ev.val (by simp)
 ·simp only [c, decide_false, Bool.false_eq_true, if_false]
  exact Ev.val (by simp)
theorem FnSideOdd_pure (l : List Int) (_hl : l.length ≤ 9223372036854775807) (h : ∀ x ∈ l, 0 ≤ x ∧ x ≤ 255) : ∃ k, laws_FnSideOdd.f k l = some true := by
 refine Ev.rounds ?_
 unfold laws_FnSideOdd.f
 by_cases d : (l.length : Int) > 1048576
 ·simp only [if_pos d]; exact Ev.val rfl
 simp only [if_neg d]
 obtain ⟨n, E, e1, e2⟩ := drawSideOdd_ev l h
 have hEb : (E.length : Int) < big := by unfold big; omega
 have sl := sideOddG_len n E
 have sb : ((sideOddG n E).1.length : Int) < big := by unfold big; omega
 refine Ev.bind e1 ?_
 refine Ev.bind (sideOddSpec n E hEb) ?_
 refine Ev.bind (sideOddImpl n E hEb) ?_
 simp only [bne_self_eq_false, Bool.false_eq_true, if_false]
 refine Ev.bind (loInts_refl _ sb) ?_
 cases q : (sideOddG n E).2 with
 | true =>
  obtain ⟨hE, t, ht, ec, hw⟩ := sideOddG_is q
  obtain ⟨a1, a2, _⟩ := odd_ends hE ht
  have hi := hE.2.2.1 t ht
  have hT : ok n (tree E) := ok_sublist hE (tree_sub E)
  obtain ⟨w1, w2, w3⟩ := way_walkOk hT.2.2.1 a2 hw
  have pw := (proper_way (col_sides hE).1 hw).1 ec.symm
  generalize hr : (sideOddG n E).1 = ring at *
  have len3 : 3 ≤ ring.length := by
   rcases Nat.lt_or_ge ring.length 3 with k | k
   ·exfalso
    have : ring.length = 1 := by omega
    obtain ⟨x, hx⟩ := List.length_eq_one_iff.1 this
    have h1 := hw.head
    have h2 := hw.last
    rw [hx] at h1 h2
    simp at h1 h2
    unfold inr at hi
    omega
   ·exact k
  refine Ev.step (fun k => by simp only [laws_FnSideOdd.j0, Bool.not_true, Bool.false_eq_true, if_false, if_true] <;> exact rfl) ?_
  refine Ev.bind (wayOk_ev n E ring hEb sb) ?_
  have wk : ok n E ∧ ring ≠ [] ∧ walkOk n E ring ∧ ring.Nodup := ⟨hE, w1, ⟨w2.1, fun t ht => (tree_sub E).subset (w2.2 t ht)⟩, w3⟩
  rw [decide_eq_true wk]
  have c1 : (ring.length : Int) ≥ 3 := by omega
  have c2 : (ring.length : Int) % 2 = 1 := by omega
  have c3 : 0 < (ring.length : Int) := by omega
  have w : wrap64 ((ring.length : Int) - 1) = (ring.length : Int) - 1 := w64 (by omega) (by omega)
  have c4 : 0 ≤ (ring.length : Int) - 1 := by omega
  have c5 : (ring.length : Int) - 1 < (ring.length : Int) := by omega
  simp only [if_true, if_pos c1, if_pos c2, if_pos c3, w, if_pos c4, if_pos c5]
  refine Ev.bind (hasN_ev n _ _ E hEb) (Ev.val (congrArg some ?_))
  have r0 : rd ring 0 = t.f1 := by
   have h1 := hw.head
   cases ring with
   | nil => simp at h1
   | cons x r => simp at h1; rw [← h1]; rfl
  have r1 : rd ring ((ring.length : Int) - 1) = t.f0 := by
   have h2 := hw.last
   rw [List.getLast?_eq_getElem?] at h2
   unfold rd
   rw [List.getD_eq_getElem?_getD, show ((ring.length : Int) - 1).toNat = ring.length - 1 by omega, h2]; rfl
  rw [r0, r1]
  refine decide_eq_true ⟨hE, ?_⟩
  rw [tieOf_comm, tieOf_inr hi]
  exact ht
 | false =>
  rw [sideOddG_none q]
  refine Ev.step (fun k => by simp only [laws_FnSideOdd.j0, Bool.not_true, Bool.false_eq_true, if_false] <;> exact rfl) ?_
  exact Ev.val (by simp)
end Go.Proofs.Ytddadihobjinhaa.P
namespace Go.Proofs.Ytddadihobjinhaa.P
open Go.RowKit Go.Proofs.YtddadihobjinhaaW.PrintWords Go.ChangeShapes Go.WideShapes Go.Deep
theorem read_ints {H : Type} {enc : TypeId × Value → H} {Pr : Program} {t e : TypeId} {k : IntKind} (ht : Pr.underlying t = some (.slice e)) (he : Pr.underlying e = some (.int k)) (hc : Pr.cellsOf e = 1) {w : World} {base : Nat} {spare : Nat → Bool} {held : Bool} {fuel : Nat} {cs : List Value} {x : DataW H × List MemPlace}
  (h : DataW.trod enc Pr w base spare held fuel t cs = some x) :
  ∃ (A : Option Addr) (c : Nat) (l : List Int), cs = [.slice A l.length c] ∧ l.length ≤ c ∧ Kd.C (Kd.int k) w A l.length l ∧ ∀ n ∈ l, (Lit.int k n).wf = true := by
 rcases open_slice1 ht hc h with ⟨rfl, _⟩ | ⟨a, len, cap, m, n, V, D, Pl, rfl, hb, hl, hm, hmm, hx, hi⟩
 ·exact ⟨none, 0, [], rfl, Nat.le_refl _, ⟨rfl, by simp, fun h => by simp at h⟩, fun t ht => by simp at ht⟩
 ·have hlm : len ≤ m := by rw [hmm]; split <;> omega
  have key : ∀ i, i < len → ∃ z : Int, w.cell? (a.add i) = some (.int k z) ∧ (Lit.int k z).wf = true := by
   intro i hil
   obtain ⟨h0, r0⟩ := hi i (by omega)
   obtain ⟨n0, e0, _, w0⟩ := DataW.trod_int he r0
   simp only [List.cons.injEq, and_true] at e0
   exact ⟨n0, by rw [h0, e0], w0⟩
  obtain ⟨f, hf⟩ := choose_lt key
  refine ⟨some a, cap, (List.range len).map f, by simp, by simpa using hl, ⟨by simp, ?_, fun _ => ⟨a, rfl, fun j p hj => ?_⟩⟩, fun t ht => ?_⟩
  ·unfold maxLen at hm; simp; omega
  ·obtain ⟨hj1, hj2⟩ := List.getElem?_eq_some_iff.1 hj
   simp at hj1 hj2
   subst hj2
   refine ⟨[.int k (f j)], rfl, rfl, fun i u hu => ?_⟩
   match i, hu with
   | 0, hu =>
    simp at hu; subst hu
    have : j * (Kd.int k).sz + 0 = j := Nat.mul_one j
    rw [this]
    exact (hf j hj1).1
  ·simp at ht
   obtain ⟨i, hil, rfl⟩ := ht
   exact (hf i hil).2
end Go.Proofs.Ytddadihobjinhaa.P
