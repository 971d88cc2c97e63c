/- Whether one can go over all ties: what the program comes to. -/
import Derived.Test.YtbkdpnfjcnkoeaaBtcans
import Derived.Test.YtbkdpnfjcnkoeaaBparts
import Derived.Test.YtbkdpnfjcnkoeaaF16
namespace Go.Proofs.Ytbkdpnfjcnkoeaa.P
set_option linter.unusedSimpArgs false
set_option linter.unusedVariables false
open Go.RowKit Go.Proofs.YtbkdpnfjcnkoeaaW.PrintWords Go.Proofs.Ytbkdpnfjcnkoeaa.G
theorem tmod2 {x : Int} (h : 0 ≤ x) : Int.tmod x 2 = x % 2 := by rw [Int.tmod_eq_emod_of_nonneg h]
theorem trail_l1 (n a : Int) (E : List Tie) (h8 : n ≤ 8) (hl : E.length ≤ 100) (ha : 0 ≤ a ∧ a < n) : ∀ (d : Nat) (i : Int), 0 ≤ i → i + d = n →
    EvP (fun k => impl_Net_trail.l1 k a (degs n E) (odds E i : Int) (degs n E) ((degs n E).length : Int) i) (evenly n E a) := by
  intro d
  induction d with
  | zero =>
    intro i h0 hi
    have hi' : i = n := by omega
    subst hi'
    have c : ¬ i < ((degs i E).length : Int) := by rw [degs_len _ _ h0]; omega
    refine EvP.step (fun k => by simp only [impl_Net_trail.l1, c, if_false] <;> exact rfl) ?_
    by_cases e0 : (odds E i : Int) = 0
    · simp only [if_pos e0]
      exact EvP.true_ (.inl (by omega))
    · simp only [if_neg e0]
      by_cases e2 : (odds E i : Int) = 2
      · have a1 : a < ((degs i E).length : Int) := by rw [degs_len _ _ h0]; exact ha.2
        simp only [if_pos e2, ha.1, a1, if_true]
        refine ⟨_, Ev.val rfl, ?_⟩
        have : rd (degs i E) a = (deg E a : Int) := rd_map_knots _ ha.1 ha.2
        rw [this, beq_iff_eq, tmod2 (by omega)]
        unfold evenly
        constructor
        · intro h; exact .inr ⟨by omega, by omega⟩
        · rintro (h | h) <;> omega
      · simp only [if_neg e2]
        refine EvP.false_ ?_
        rintro (h | h) <;> omega
  | succ d ih =>
    intro i h0 hi
    have c : i < ((degs n E).length : Int) := by rw [degs_len _ _ (by omega)]; omega
    have w : wrap64 (i + 1) = i + 1 := w64 (by omega) (by omega)
    have hol := odds_le E i.toNat
    rw [Int.toNat_of_nonneg h0] at hol
    have hr : rd (degs n E) i = (deg E i : Int) := rd_map_knots _ h0 (by omega)
    have hd := deg_le E i
    have w2 : wrap64 ((odds E i : Int) + Int.tmod (rd (degs n E) i) 2) = (odds E (i + 1) : Int) := by
      rw [hr, tmod2 (by omega), odds_succ h0, w64 (by omega) (by omega)]
      omega
    refine EvP.step (fun k => by simp only [impl_Net_trail.l1, c, if_true, h0, w, w2] <;> exact rfl) ?_
    exact ih (i + 1) (by omega) (by omega)
theorem degs_step {n : Int} {p : List Tie} {t : Tie} (ht : inr n t) (h0 : 0 ≤ n) (hl : p.length ≤ 100) :
    ((degs n p).set t.f0.toNat (wrap64 (rd (degs n p) t.f0 + 1))).set t.f1.toNat (wrap64 (rd ((degs n p).set t.f0.toNat (wrap64 (rd (degs n p) t.f0 + 1))) t.f1 + 1)) = degs n (p ++ [t]) := by
  unfold inr at ht
  have b2 : t.f0 < ((degs n p).length : Int) := by rw [degs_len _ _ h0]; omega
  have r0 : rd (degs n p) t.f0 = (deg p t.f0 : Int) := rd_map_knots _ (by omega) (by omega)
  have r1 : rd (degs n p) t.f1 = (deg p t.f1 : Int) := rd_map_knots _ (by omega) (by omega)
  have d0 := deg_le p t.f0
  have d1 := deg_le p t.f1
  rw [r0, w64 (by omega) (by omega), rd_set (by omega) b2 (by omega), if_neg (by omega), r1, w64 (by omega) (by omega)]
  refine ext_knots (by rw [List.length_set, List.length_set, degs_len _ _ h0]) (fun v v0 v1 => ?_)
  rw [rd_set (by omega) (by rw [List.length_set, degs_len _ _ h0]; omega) v0, rd_set (by omega) b2 v0, deg_snoc]
  have rv : rd (degs n p) v = (deg p v : Int) := rd_map_knots _ v0 v1
  by_cases c1 : t.f1 = v
  · rw [if_pos c1, if_pos (.inr c1), ← c1]; omega
  · rw [if_neg c1]
    by_cases c0 : t.f0 = v
    · rw [if_pos c0, if_pos (.inl c0), ← c0]; omega
    · rw [if_neg c0, if_neg (by simp [c0, c1]), rv]; omega
theorem trail_l0 (n a : Int) (E : List S63) (hE : ok n E) (ha : 0 ≤ a ∧ a < n) : ∀ (suf p : List S63), p ++ suf = E →
    EvP (fun k => impl_Net_trail.l0 k a (degs n p) (p ++ suf) ((p ++ suf).length : Int) (p.length : Int) n E) ((∀ t ∈ suf, Conn E a t.f0) ∧ evenly n E a) := by
  have hlen := ok_len hE
  have hEb : (E.length : Int) < big := by unfold big; omega
  have h0 := hE.1
  have h8 := hE.2.1
  intro suf
  induction suf with
  | nil =>
    intro p he
    have hp : p = E := by rw [← he]; simp
    refine EvP.step (fun k => by simp only [impl_Net_trail.l0, nlt_end, if_false] <;> exact rfl) ?_
    rw [hp]
    have z : ((odds E 0 : Nat) : Int) = 0 := by simp [odds, knots]
    have e := trail_l1 n a E h8 (by omega) ha n.toNat 0 (Int.le_refl 0) (by omega)
    rw [z] at e
    exact e.iff (by simp)
  | cons t suf ih =>
    intro p he
    have hp : (p.length : Int) < big := len_mid (by rw [he]; exact hEb)
    have hpl : p.length ≤ 100 := by
      have : p.length ≤ E.length := by rw [← he, List.length_append]; omega
      omega
    have ht : t ∈ E := by rw [← he]; simp
    have hr := hE.2.2.1 t ht
    have hst := degs_step hr h0 hpl
    unfold inr at hr
    have b1 : 0 ≤ t.f0 := hr.1
    have b2 : t.f0 < ((degs n p).length : Int) := by rw [degs_len _ _ h0]; omega
    have b3 : 0 ≤ t.f1 := by omega
    have b4 : ∀ x, t.f1 < (((degs n p).set t.f0.toNat x).length : Int) := fun x => by rw [List.length_set, degs_len _ _ h0]; omega
    have b5 : t.f1 < ((degs n p).length : Int) := by rw [degs_len _ _ h0]; omega
    refine EvP.step (fun k => by simp only [impl_Net_trail.l0, lt_mid, nn, if_true, rdC_mid, w_succ (t := t) hp, b1, b2, b3, b4, b5, Option.bind_some, List.length_set, hst] <;> exact rfl) ?_
    refine EvP.test (joined_ev n E hE a t.f0 ha ⟨b1, by omega⟩) (fun hc => ?_) (fun hc => ?_)
    · simp only [if_true]
      rw [app_one p t suf]
      refine (ih (p ++ [t]) (by rw [← he]; simp)).iff ?_
      simp [hc]
    · simp only [Bool.false_eq_true, if_false]
      exact EvP.false_ (fun h => hc (h.1 t (List.mem_cons_self)))
theorem trail_ev (n a : Int) (E : List S63) (hE : ok n E) (ha : 0 ≤ a ∧ a < n) : EvP (fun k => impl_Net_trail.f k n E a) ((∀ t ∈ E, Conn E a t.f0) ∧ evenly n E a) := by
  have h0 := hE.1
  have h8 := hE.2.1
  unfold impl_Net_trail.f
  have hn : n.toNat ≤ 35184372088832 := by omega
  simp only [h0, hn, if_true]
  have e : List.replicate n.toNat (0 : Int) = degs n [] := by
    refine ext_knots (by rw [List.length_replicate]; omega) (fun v v0 v1 => ?_)
    unfold rd
    rw [List.getD_eq_getElem?_getD, List.getElem?_replicate]
    split <;> rfl
  rw [e]
  exact trail_l0 n a E hE ha E [] rfl
theorem tcanImpl (n a : Int) (E : List S63) (hE : (E.length : Int) < big) : EvP (fun k => impl_TrailCan.f k n E a) (trailCan n E a) := by
  unfold impl_TrailCan.f
  refine EvP.test (EvP.of (implOk n E hE)) (fun h => ?_) (fun h => ?_)
  · simp only [if_true, knot_eq, Option.bind_some, decide_eq_true_eq]
    by_cases c : 0 ≤ a ∧ a < n
    · simp only [if_pos c]
      have e := trail_ev n a E h c
      obtain ⟨b, b1, b2⟩ := e
      refine EvP.bind b1 ⟨b, Ev.val rfl, b2.trans ?_⟩
      unfold trailCan
      exact ⟨fun q => ⟨h, c, q.1, q.2⟩, fun q => ⟨q.2.2.1, q.2.2.2⟩⟩
    · simp only [if_neg c]
      exact EvP.false_ (fun q => c q.2.1)
  · simp only [Bool.false_eq_true, if_false]
    exact EvP.false_ (fun q => h q.1)
end Go.Proofs.Ytbkdpnfjcnkoeaa.P
