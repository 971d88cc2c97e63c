-- Printed by a program of this session (mp.py, over the kit's print). Not trusted: Lean checks it.
import Derived.Test.YtbpkngahnmoocaaDoorF0
import Derived.Test.YtbpkngahnmoocaaDoorF1
import Derived.Test.YtbpkngahnmoocaaDoorF3
namespace Go.Proofs.YtbpkngahnmoocaaDoor.P
open Go.RowKit Go.Proofs.YtbpkngahnmoocaaDoorW.PrintWords Go.Proofs.YtbpkngahnmoocaaDoorW.PrintLast Go.Proofs.YtbpkngahnmoocaaDoorW.PrintMore
attribute [local go_sem] max2_int min2_int max_two min_two max_three min_three max_four min_four   -- for this text's walks alone
set_option linter.unusedVariables false
set_option linter.unusedSimpArgs false

theorem caac {p : Prop} (h : p := by first | rfl | (simp [errW_none, errW_some] <;> rfl) | (simp [*, errW_none, errW_some] <;> rfl)) : p := h
theorem caab {p : Prop} (h : p := by first | rfl | (simp; done) | (simp [*]; done)) : p := h
/-! ### laws_toIntS: function 6 -/
def laws_toIntS.l0 : Nat → List Int → List Int → Int → Option (List Int)
 | 0, _, _, _ => none
 | k + 1, x0, x3, x4 => if x4 < (x0.length : Int) then (if 0 ≤ x4 then (if x4 < (x3.length : Int) then (laws_toIntS.l0 k x0 (x3.set (x4 : Int).toNat (rd x0 x4)) (wrap64 (x4 + 1))) else (none)) else (none)) else (some x3)
def laws_toIntS.f (k : Nat) (l0 : List Int) : Option (List Int) := if 0 ≤ (l0.length : Int) then (if ((l0.length : Int) : Int).toNat ≤ 35184372088832 then (laws_toIntS.l0 k l0 (List.replicate ((l0.length : Int) : Int).toNat 0) 0) else (none)) else (none)
theorem laws_toIntS.mono_l : ∀ k, (∀ y0 y1 y2, LeO (laws_toIntS.l0 k y0 y1 y2) (laws_toIntS.l0 (k + 1) y0 y1 y2))
 | 0 => fun _ _ _ r h => by simp [laws_toIntS.l0] at h
 | k + 1 => by
  have ap := laws_toIntS.mono_l k
  ·intro y0 y1 y2; unfold laws_toIntS.l0
   repeat' first
   | (with_reducible exact ap _ _ _)
   | (with_reducible exact LeO.refl _)
   | (with_reducible exact LeO.none _)
   | (with_reducible refine LeO.ite ?_ ?_)
   | (with_reducible refine LeO.bind ?_ (fun _ => ?_))
   | exact ap _ _ _
   | exact LeO.none _
   | refine LeO.ite ?_ ?_
   | refine LeO.bind ?_ (fun _ => ?_)
theorem laws_toIntS.mono : ∀ a0 k, LeO (laws_toIntS.f k a0) (laws_toIntS.f (k + 1) a0) := by
 intro a0 k; have ap := laws_toIntS.mono_l k; unfold laws_toIntS.f
 repeat' first | (with_reducible first | exact ap _ _ _ | exact LeO.refl _ | exact LeO.none _ | refine LeO.ite ?_ ?_ | refine LeO.bind ?_ (fun _ => ?_)) | exact ap _ _ _ | exact LeO.none _ | refine LeO.ite ?_ ?_ | refine LeO.bind ?_ (fun _ => ?_)
set_option maxHeartbeats 8000000 in
set_option maxRecDepth 100000 in
theorem laws_toIntS.calls (k : Nat) (A0 : Option Addr) (c0 : Nat) (l0 : List Int) (r : List Int) (w : World) (aC : Kd.C (Kd.int .i64) w A0 l0.length l0) (aD : l0.length ≤ c0) (h : laws_toIntS.f k l0 = some r) :
  Calls Tryd.prog 6 #[.slice A0 l0.length c0] w fun e w' => ∃ bf : Value, e = .returned (bf) ∧ Kd.R (Kd.int .i64) 3 w' w.heap.size (fun _ => True) bf r ∧ Below w.heap.size w w' := by
 have am := G.m aC; have au := G.m aD; clear aC aD; have HB := G.m (Below.refl w.heap.size w); have H : (if 0 ≤ (l0.length : Int) then (if ((l0.length : Int) : Int).toNat ≤ 35184372088832 then (laws_toIntS.l0 k l0 (List.replicate ((l0.length : Int) : Int).toNat 0) 0) else (none)) else (none)) = some r := h; clear h
 by_cases c2 : 0 ≤ (l0.length : Int)
 ·rw [if_pos c2] at H; have aL := eq_true c2; have aM : decide (0 ≤ (l0.length : Int)) = true := decide_eq_true c2; clear c2
  by_cases c3 : ((l0.length : Int) : Int).toNat ≤ 35184372088832
  ·rw [if_pos c3] at H; have aG := eq_true c3; have aH : decide (((l0.length : Int) : Int).toNat ≤ 35184372088832) = true := decide_eq_true c3; clear c3; obtain ⟨aY, aA⟩ : ∃ y_ : List Int, y_ = (List.replicate ((l0.length : Int) : Int).toNat 0) := ⟨_, rfl⟩; replace H : (laws_toIntS.l0 k l0 aY 0) = some r := by first | (rw [aA]; with_reducible exact H) | (have aE := (Option.bind_some _ _).symm.trans H; rw [aA]; with_reducible exact aE) | (have aE := (Option.bind_some _ _).symm.trans H; with_reducible exact aE) | with_reducible exact H | (rw [aA]; exact H) | exact H
   have aU := G.m aA; clear aA; have H' := G.m H; clear H
   go_enter Tryd.func6, Tryd.ntmps6
   go_wp2_with (first | ((with_reducible refine G.h 7 rfl ?_); refine Kd.R_make (Kd.int .i64) _ 3 rfl (N := 7) rfl 22 _ _ rfl (l0.length : Int) rfl rfl Tryd.underlying22 (.int .i64 0) 8 info3 rfl (by decide) (by omega) 0 (ok := fun _ => True) (okp := fun _ => True) rfl (fun _ hk => hk) trivial (of_decide_eq_true (G.asm)) (Nat.le_trans (Nat.mul_le_mul_right _ (of_decide_eq_true (G.asm) : (l0.length : Int).toNat ≤ 35184372088832)) (by omega)) (Below.refl _ _) (Nat.le_refl _) ?_; intro bn w4 aJ hb hg_ hnew_; clear hg_ hnew_; (first | rw [← aU.out] at aJ | (simp only [Int.reduceToNat] at aJ; rw [← aU.out] at aJ)); have n0 := G.m (Kd.R_lower aJ (below_size (G.cB HB.out))); have n1 := G.bs HB hb; clear HB; revert n0 n1; intro a_ HB; clear hb aJ))
   go_loopg [4] k (fun kq v4 w' => ∃ (aq : List Int) (af : Int), v4 = .int .i64 af ∧ Aside0 (laws_toIntS.l0 kq l0 aq af = some r) ∧ Aside0 (kq ≤ k) ∧ Aside0 (Kd.R (Kd.int .i64) 3 w' w.heap.size (fun _ => True) bn aq) ∧ Aside0 (Below w.heap.size w w'))
   case atStart => exact ⟨(aY), (0), (caab), H', ⟨Nat.le_refl _⟩, ⟨G.cR a_.out⟩, ⟨G.cB HB.out⟩⟩
   case round =>
    clear H'; (try clear aL aM aG aH); obtain ⟨aq, af, rfl, HA, aK, av, HB⟩ := hrel; cases gk with
    | zero => exact absurd HA.out (by simp [laws_toIntS.l0])
    | succ k1 =>
     have H := HA.out; clear HA; simp only [laws_toIntS.l0] at H
     by_cases c6 : af < (l0.length : Int)
     ·rw [if_pos c6] at H; have aZ : decide (af < (l0.length : Int)) = true := decide_eq_true c6; clear c6
      by_cases c7 : 0 ≤ af
      ·rw [if_pos c7] at H; have aI : decide (0 ≤ af) = true := decide_eq_true c7; clear c7
       by_cases c8 : af < (aq.length : Int)
       ·rw [if_pos c8] at H; have bU : decide (af < (aq.length : Int)) = true := decide_eq_true c8; clear c8; obtain ⟨aN, aB⟩ : ∃ y_ : List Int, y_ = (aq.set (af : Int).toNat (rd l0 af)) := ⟨_, rfl⟩; replace H : (laws_toIntS.l0 k1 l0 aN (wrap64 (af + 1))) = some r := by first | (rw [aB]; with_reducible exact H) | (have aE := (Option.bind_some _ _).symm.trans H; rw [aB]; with_reducible exact aE) | (have aE := (Option.bind_some _ _).symm.trans H; with_reducible exact aE) | with_reducible exact H | (rw [aB]; exact H) | exact H
        have ba := G.m aB; clear aB; have H' := G.m H; clear H; have aO : 0 ≤ (af : Int) := of_decide_eq_true (G.asm); have aP : af < (l0.length : Int) := of_decide_eq_true (G.asm); obtain ⟨bR, bo, aF⟩ := Kd.at_int am.out af aO aP; cases bo; replace aF := G.hx HB aF; replace aO := eq_true aO; replace aP := eq_true aP; have p9 : 0 ≤ (af : Int) := of_decide_eq_true (G.asm); have q9 : (af : Int) < ((aq.length : Int) : Int) := of_decide_eq_true (G.asm); obtain ⟨a2, bO, bh, bj, bP, bW, bk⟩ := Kd.R_form av.out (by omega); (first | cases bh | (injection bh with ea_ en_ ec_; (first | subst ea_ | (injection ea_ with ea_; subst ea_)); subst ec_; clear en_)); have bQ := G.m bj; have bX := G.m bk; clear bj bP bk; obtain ⟨bS, bT⟩ := Kd.R_celln 0 av.out (af : Int) p9 q9; replace p9 := eq_true p9; replace q9 := eq_true q9; have aQ := Kd.R_putg av.out (af : Int) (rd l0 af)
        go_wp2_with (first | ((with_reducible refine gate_store (t := 3) (p := 20) rfl ?_); refine store_event (t := 3) (p := 20) (v := ?vo_w11) (w1 := (wr.setCell ⟨a2, (af : Int).toNat, none⟩ (.int .i64 (rd l0 af)))) ?hg ?ho ?hn ?hr ?_; (case ho => rfl); (case hg => rfl); (case hn => rfl); (case hr => first | (go_simp; done) | (go_simp; rfl)); intro aV hw; have hg : wr.grownBy aV (some a2) := (by rw [hw]; exact aQ.2); have hp_ : Kd.R (Kd.int .i64) 3 aV w.heap.size (fun _ => True) (.slice (some ⟨a2, 0, none⟩) aq.length bO) aN := (by rw [hw, ba.out]; exact aQ.1); clear aQ; have n0 := G.m (hp_); have n1 := G.m ((by rw [hw]; exact below_set (HB.out) bQ.out : Below w.heap.size w aV)); clear av HB; revert n0 n1; intro av HB; clear hg hw hp_))
        go_roundg k1
        case measure => have := aK.out; omega
        case rel => exact ⟨(aN), (wrap64 (af + 1)), (caab), H', ⟨by have := aK.out; omega⟩, ⟨G.cR av.out⟩, ⟨G.cB HB.out⟩⟩
       ·rw [if_neg c8] at H; exact absurd H (by simp)
      ·rw [if_neg c7] at H; exact absurd H (by simp)
     ·rw [if_neg c6] at H; have aZ : decide (af < (l0.length : Int)) = false := decide_eq_false c6; clear c6; obtain rfl := Option.some.inj H
      go_wp2
      go_ret
      exact ⟨_, by first | rfl | (simp [errW_none, errW_some] <;> rfl) | (simp [*, errW_none, errW_some] <;> rfl), G.cR av.out, G.cB HB.out⟩
  ·rw [if_neg c3] at H; exact absurd H (by simp)
 ·rw [if_neg c2] at H; exact absurd H (by simp)

/-! ### laws_eqIntS: function 8 -/
def laws_eqIntS.l0 : Nat → List Int → List Int → Int → Option (Bool)
 | 0, _, _, _ => none
 | k + 1, x0, x1, x5 => if x5 < (x0.length : Int) then (if 0 ≤ x5 then (if x5 < (x1.length : Int) then (if (rd x0 x5) = (rd x1 x5) then (laws_eqIntS.l0 k x0 x1 (wrap64 (x5 + 1))) else (some false)) else (none)) else (none)) else (some true)
def laws_eqIntS.f (k : Nat) (l0 : List Int) (l1 : List Int) : Option (Bool) := if (l0.length : Int) = (l1.length : Int) then (laws_eqIntS.l0 k l0 l1 0) else (some false)
theorem laws_eqIntS.mono_l : ∀ k, (∀ y0 y1 y2, LeO (laws_eqIntS.l0 k y0 y1 y2) (laws_eqIntS.l0 (k + 1) y0 y1 y2))
 | 0 => fun _ _ _ r h => by simp [laws_eqIntS.l0] at h
 | k + 1 => by
  have ap := laws_eqIntS.mono_l k
  ·intro y0 y1 y2; unfold laws_eqIntS.l0
   repeat' first
   | (with_reducible exact ap _ _ _)
   | (with_reducible exact LeO.refl _)
   | (with_reducible exact LeO.none _)
   | (with_reducible refine LeO.ite ?_ ?_)
   | (with_reducible refine LeO.bind ?_ (fun _ => ?_))
   | exact ap _ _ _
   | exact LeO.none _
   | refine LeO.ite ?_ ?_
   | refine LeO.bind ?_ (fun _ => ?_)
theorem laws_eqIntS.mono : ∀ a0 a1 k, LeO (laws_eqIntS.f k a0 a1) (laws_eqIntS.f (k + 1) a0 a1) := by
 intro a0 a1 k; have ap := laws_eqIntS.mono_l k; unfold laws_eqIntS.f
 repeat' first | (with_reducible first | exact ap _ _ _ | exact LeO.refl _ | exact LeO.none _ | refine LeO.ite ?_ ?_ | refine LeO.bind ?_ (fun _ => ?_)) | exact ap _ _ _ | exact LeO.none _ | refine LeO.ite ?_ ?_ | refine LeO.bind ?_ (fun _ => ?_)
set_option maxHeartbeats 8000000 in
set_option maxRecDepth 100000 in
theorem laws_eqIntS.calls (k : Nat) (A0 : Option Addr) (c0 : Nat) (l0 : List Int) (A1 : Option Addr) (c1 : Nat) (l1 : List Int) (r : Bool) (w : World) (aC : Kd.C (Kd.int .i64) w A0 l0.length l0) (aD : l0.length ≤ c0) (hr1 : Kd.C (Kd.int .i64) w A1 l1.length l1) (bl : l1.length ≤ c1) (h : laws_eqIntS.f k l0 l1 = some r) :
  Calls Tryd.prog 8 #[.slice A0 l0.length c0, .slice A1 l1.length c1] w fun e w' => e = .returned (.bool r) ∧ Drawn0 w w' := by
 have am := G.m aC; have au := G.m aD; clear aC aD; have bm := G.m hr1; have bY := G.m bl; clear hr1 bl; have H : (if (l0.length : Int) = (l1.length : Int) then (laws_eqIntS.l0 k l0 l1 0) else (some false)) = some r := h; clear h
 by_cases c3 : (l0.length : Int) = (l1.length : Int)
 ·rw [if_pos c3] at H; have aG : ((l0.length : Int) == (l1.length : Int)) = true := beq_iff_eq.mpr c3; have aH : ((l0.length : Int) != (l1.length : Int)) = false := bne_eq_false_iff_eq.mpr c3; have a3 : (l0.length == l1.length) = true := by first | simpa using c3 | (simp at c3 ⊢; omega)
  clear c3; have H' := G.m H; clear H
  go_enter Tryd.func8, Tryd.ntmps8
  go_wp2
  repeat (go_quiet (fail); try go_wp2)
  go_loopg [5] k (fun kq v5 w' => ∃ (ac : Int), v5 = .int .i64 ac ∧ Aside0 (laws_eqIntS.l0 kq l0 l1 ac = some r) ∧ Aside0 (kq ≤ k) ∧ Drawn0 w w')
  case atStart => exact ⟨(0), (caab), H', ⟨Nat.le_refl _⟩, by repeat (first | exact Drawn0.refl _ | apply Drawn0.step)⟩
  case round =>
   clear H'; (try clear aG aH a3); obtain ⟨ac, rfl, HA, aK, ⟨m1, rfl⟩⟩ := hrel; cases gk with
   | zero => exact absurd HA.out (by simp [laws_eqIntS.l0])
   | succ k1 =>
    have H := HA.out; clear HA; simp only [laws_eqIntS.l0] at H
    by_cases c4 : ac < (l0.length : Int)
    ·rw [if_pos c4] at H; have bp : decide (ac < (l0.length : Int)) = true := decide_eq_true c4; clear c4
     by_cases c5 : 0 ≤ ac
     ·rw [if_pos c5] at H; have bV : decide (0 ≤ ac) = true := decide_eq_true c5; clear c5
      by_cases c6 : ac < (l1.length : Int)
      ·rw [if_pos c6] at H; have aZ : decide (ac < (l1.length : Int)) = true := decide_eq_true c6; clear c6
       by_cases c7 : (rd l0 ac) = (rd l1 ac)
       ·rw [if_pos c7] at H; have aI : ((rd l0 ac) == (rd l1 ac)) = true := beq_iff_eq.mpr c7; have aR : ((rd l0 ac) != (rd l1 ac)) = false := bne_eq_false_iff_eq.mpr c7; clear c7; have H' := G.m H; clear H; have aw : 0 ≤ (ac : Int) := of_decide_eq_true (G.asm); have ax : ac < (l0.length : Int) := of_decide_eq_true (G.asm); obtain ⟨bc, aS, aW⟩ := Kd.at_int am.out ac aw ax; cases aS; replace aw := eq_true aw; replace ax := eq_true ax; have ay : 0 ≤ (ac : Int) := of_decide_eq_true (G.asm); have az : ac < (l1.length : Int) := of_decide_eq_true (G.asm); obtain ⟨bd, aT, aX⟩ := Kd.at_int bm.out ac ay az; cases aT; replace ay := eq_true ay; replace az := eq_true az
        go_wp2
        repeat (go_quiet (fail); try go_wp2)
        go_roundg k1
        case measure => have := aK.out; omega
        case rel => exact ⟨(wrap64 (ac + 1)), (caab), H', ⟨by have := aK.out; omega⟩, by repeat (first | exact Drawn0.refl _ | apply Drawn0.step)⟩
       ·rw [if_neg c7] at H; have aI : ((rd l0 ac) == (rd l1 ac)) = false := beq_eq_false_iff_ne.mpr c7; have aR : ((rd l0 ac) != (rd l1 ac)) = true := bne_iff_ne.mpr c7; obtain rfl := Option.some.inj H; have aw : 0 ≤ (ac : Int) := of_decide_eq_true (G.asm); have ax : ac < (l0.length : Int) := of_decide_eq_true (G.asm); obtain ⟨bc, aS, aW⟩ := Kd.at_int am.out ac aw ax; cases aS; replace aw := eq_true aw; replace ax := eq_true ax; have ay : 0 ≤ (ac : Int) := of_decide_eq_true (G.asm); have az : ac < (l1.length : Int) := of_decide_eq_true (G.asm); obtain ⟨bd, aT, aX⟩ := Kd.at_int bm.out ac ay az; cases aT; replace ay := eq_true ay; replace az := eq_true az
        go_wp2
        repeat (go_quiet (fail); try go_wp2)
        go_ret
        exact ⟨caab, by repeat (first | exact Drawn0.refl _ | apply Drawn0.step)⟩
      ·rw [if_neg c6] at H; exact absurd H (by simp)
     ·rw [if_neg c5] at H; exact absurd H (by simp)
    ·rw [if_neg c4] at H; have bp : decide (ac < (l0.length : Int)) = false := decide_eq_false c4; clear c4; obtain rfl := Option.some.inj H
     go_wp2
     repeat (go_quiet (fail); try go_wp2)
     go_ret
     exact ⟨caab, by repeat (first | exact Drawn0.refl _ | apply Drawn0.step)⟩
 ·rw [if_neg c3] at H; have aG : ((l0.length : Int) == (l1.length : Int)) = false := beq_eq_false_iff_ne.mpr c3; have aH : ((l0.length : Int) != (l1.length : Int)) = true := bne_iff_ne.mpr c3; have a3 : (l0.length == l1.length) = false := by first | simpa using c3 | (simp at c3 ⊢; omega)
  obtain rfl := Option.some.inj H
  go_enter Tryd.func8, Tryd.ntmps8
  go_wp2
  repeat (go_quiet (fail); try go_wp2)
  go_ret
  exact ⟨caab, by repeat (first | exact Drawn0.refl _ | apply Drawn0.step)⟩

/-! ### laws_FnExactLiveSay: function 3 -/
def laws_FnExactLiveSay.f (k : Nat) (l0 : List Int) : Option (Bool) := if (l0.length : Int) > 1048576 then (some true) else ((laws_toIntS.f k l0).bind fun al => ((spec_LiveSay.f k al).bind fun aj => ((laws_toIntS.f k l0).bind fun ae => ((impl_LiveSay.f k ae).bind fun ah => (if ah.toList = aj.toList then ((laws_toIntS.f k l0).bind fun ai => ((laws_eqIntS.f k ae ai).bind fun ak => (if ak = true then (some true) else (some false)))) else (some false))))))
theorem laws_FnExactLiveSay.mono : ∀ a0 k, LeO (laws_FnExactLiveSay.f k a0) (laws_FnExactLiveSay.f (k + 1) a0) := by
 intro a0 k; unfold laws_FnExactLiveSay.f
 repeat' first | (with_reducible first | exact impl_LiveSay.mono _ _ | exact laws_eqIntS.mono _ _ _ | exact laws_toIntS.mono _ _ | exact spec_LiveSay.mono _ _ | exact LeO.refl _ | exact LeO.none _ | refine LeO.ite ?_ ?_ | refine LeO.bind ?_ (fun _ => ?_)) | exact impl_LiveSay.mono _ _ | exact laws_eqIntS.mono _ _ _ | exact laws_toIntS.mono _ _ | exact spec_LiveSay.mono _ _ | exact LeO.none _ | refine LeO.ite ?_ ?_ | refine LeO.bind ?_ (fun _ => ?_)
set_option maxHeartbeats 8000000 in
set_option maxRecDepth 100000 in
theorem laws_FnExactLiveSay.calls (k : Nat) (A0 : Option Addr) (c0 : Nat) (l0 : List Int) (r : Bool) (w : World) (aC : Kd.C (Kd.int .i64) w A0 l0.length l0) (aD : l0.length ≤ c0) (h : laws_FnExactLiveSay.f k l0 = some r) (hT : TabP w) :
  Calls Tryd.prog 3 #[.slice A0 l0.length c0] w fun e w' => e = .returned (.bool r) ∧ Below w.heap.size w w' := by
 have HTb := G.m hT; clear hT; have am := G.m aC; have au := G.m aD; clear aC aD; have HB := G.m (Below.refl w.heap.size w); have H : (if (l0.length : Int) > 1048576 then (some true) else ((laws_toIntS.f k l0).bind fun al => ((spec_LiveSay.f k al).bind fun aj => ((laws_toIntS.f k l0).bind fun ae => ((impl_LiveSay.f k ae).bind fun ah => (if ah.toList = aj.toList then ((laws_toIntS.f k l0).bind fun ai => ((laws_eqIntS.f k ae ai).bind fun ak => (if ak = true then (some true) else (some false)))) else (some false))))))) = some r := h; clear h
 by_cases c2 : (l0.length : Int) > 1048576
 ·rw [if_pos c2] at H; have aL : decide (1048576 < (l0.length : Int)) = true := decide_eq_true c2; have aM : decide (1048576 < l0.length) = true := decide_eq_true (by omega); clear c2; obtain rfl := Option.some.inj H
  go_enter Tryd.func3, Tryd.ntmps3
  go_wp2
  go_ret
  exact ⟨caac, G.cB HB.out⟩
 ·rw [if_neg c2] at H; have aL : decide (1048576 < (l0.length : Int)) = false := decide_eq_false c2; have aM : decide (1048576 < l0.length) = false := decide_eq_false (by omega); clear c2; obtain ⟨al, A3, H⟩ := G.bi H; replace H : ((spec_LiveSay.f k al).bind fun aj => ((laws_toIntS.f k l0).bind fun ae => ((impl_LiveSay.f k ae).bind fun ah => (if ah.toList = aj.toList then ((laws_toIntS.f k l0).bind fun ai => ((laws_eqIntS.f k ae ai).bind fun ak => (if ak = true then (some true) else (some false)))) else (some false))))) = some r := H; obtain ⟨aj, A4, H⟩ := G.bi H; replace H : ((laws_toIntS.f k l0).bind fun ae => ((impl_LiveSay.f k ae).bind fun ah => (if ah.toList = aj.toList then ((laws_toIntS.f k l0).bind fun ai => ((laws_eqIntS.f k ae ai).bind fun ak => (if ak = true then (some true) else (some false)))) else (some false)))) = some r := H; obtain ⟨ae, A5, H⟩ := G.bi H; replace H : ((impl_LiveSay.f k ae).bind fun ah => (if ah.toList = aj.toList then ((laws_toIntS.f k l0).bind fun ai => ((laws_eqIntS.f k ae ai).bind fun ak => (if ak = true then (some true) else (some false)))) else (some false))) = some r := H; obtain ⟨ah, A6, H⟩ := G.bi H; replace H : (if ah.toList = aj.toList then ((laws_toIntS.f k l0).bind fun ai => ((laws_eqIntS.f k ae ai).bind fun ak => (if ak = true then (some true) else (some false)))) else (some false)) = some r := H
  by_cases c7 : ah.toList = aj.toList
  ·rw [if_pos c7] at H; have aI : (ah.toList == aj.toList) = true := beq_iff_eq.mpr c7; have aR : (ah.toList != aj.toList) = false := bne_eq_false_iff_eq.mpr c7; clear c7; obtain ⟨ai, A8, H⟩ := G.bi H; replace H : ((laws_eqIntS.f k ae ai).bind fun ak => (if ak = true then (some true) else (some false))) = some r := H; obtain ⟨ak, A9, H⟩ := G.bi H; replace H : (if ak = true then (some true) else (some false)) = some r := H
   by_cases c10 : ak = true
   ·subst c10; have H1 : (some true) = some r := by rw [if_pos rfl] at H; exact H
    clear H; have H := H1; clear H1; obtain rfl := Option.some.inj H
    go_enter Tryd.func3, Tryd.ntmps3
    go_wp2_with (first | ((with_reducible refine G.f 6 rfl ?_); refine G.gL 10 Tryd.func6 #[.slice A0 l0.length c0] ?_; (with_reducible refine (laws_toIntS.calls k _ _ l0 al _ ?side1 ?side2 A3.out).mono ?_); (case side1 => exact G.cC am.out); (case side2 => exact au.out); rintro e aV ⟨a4, rfl, ag, hb⟩; refine ⟨_, rfl, ?_⟩; have n0 := G.m (Kd.R_lower ag (below_size (G.cB HB.out))); have n1 := G.bs HB hb; clear HB; revert n0 n1; intro aa HB; (try clear hb ag); obtain ⟨bq, br, bu⟩ := Kd.R_slice aa.out; subst bu) | ((with_reducible refine G.f 5 rfl ?_); refine G.gL 11 Tryd.func5 #[.slice bq al.length br] ?_; (with_reducible refine (spec_LiveSay.calls k _ _ al aj _ ?side1 ?side2 A4.out).mono ?_); (case side1 => exact G.cC (Kd.R_reads' aa.out).2.2); (case side2 => exact (Kd.R_reads' aa.out).2.1); rintro e bZ ⟨rfl, hb⟩; refine ⟨_, rfl, ?_⟩; have n0 := G.rb aa hb; have n1 := G.bs HB hb; clear aa HB; revert n0 n1; intro aa HB; (try clear hb)) | ((with_reducible refine G.f 6 rfl ?_); refine G.gL 13 Tryd.func6 #[.slice A0 l0.length c0] ?_; (with_reducible refine (laws_toIntS.calls k _ _ l0 ae _ ?side1 ?side2 A5.out).mono ?_); (case side1 => exact G.cC (Kd.C_below am.out HB.out)); (case side2 => exact au.out); rintro e b1 ⟨a5, rfl, ag, hb⟩; refine ⟨_, rfl, ?_⟩; have n0 := G.re aa ag hb; have n1 := G.m (Kd.R_lower (Kd.R_new' ag (Kd.R_lt (G.cR aa.out))) (below_size (G.cB HB.out))); have n2 := G.bs HB hb; clear aa HB; revert n0 n1 n2; intro aa ab HB; (try clear hb ag); obtain ⟨a6, a7, bv⟩ := Kd.R_slice ab.out; subst bv) | ((with_reducible refine G.f 7 rfl ?_); refine G.gL 15 Tryd.func7 #[.slice a6 ae.length a7] ?_; (with_reducible refine (impl_LiveSay.calls k _ _ ae ah _ ?side1 ?side2 A6.out ?sideT).mono ?_); (case sideT => exact lay HTb.out (G.cB HB.out)); (case side1 => exact G.cC (Kd.R_reads' ab.out).2.2); (case side2 => exact (Kd.R_reads' ab.out).2.1); rintro e b2 ⟨rfl, hb⟩; refine ⟨_, rfl, ?_⟩; have n0 := G.rb aa hb; have n1 := G.rb ab hb; have n2 := G.bs HB hb; clear aa ab HB; revert n0 n1 n2; intro aa ab HB; (try clear hb)) | ((with_reducible refine G.f 6 rfl ?_); refine G.gL 21 Tryd.func6 #[.slice A0 l0.length c0] ?_; (with_reducible refine (laws_toIntS.calls k _ _ l0 ai _ ?side1 ?side2 A8.out).mono ?_); (case side1 => exact G.cC (Kd.C_below am.out HB.out)); (case side2 => exact au.out); rintro e b3 ⟨bw, rfl, ag, hb⟩; refine ⟨_, rfl, ?_⟩; have n0 := G.re aa ag hb; have n1 := G.re ab ag hb; have n2 := G.m (Kd.R_lower (Kd.R_new' (Kd.R_new' ag (Kd.R_lt (G.cR aa.out))) (Kd.R_lt (G.cR ab.out))) (below_size (G.cB HB.out))); have n3 := G.bs HB hb; clear aa ab HB; revert n0 n1 n2 n3; intro aa ab ao HB; (try clear hb ag); obtain ⟨bx, bz, bA⟩ := Kd.R_slice ao.out; subst bA) | ((with_reducible refine G.f 8 rfl ?_); refine G.gL 22 Tryd.func8 #[.slice a6 ae.length a7, .slice bx ai.length bz] ?_; (with_reducible refine (laws_eqIntS.calls k _ _ ae _ _ ai true _ ?side1 ?side2 ?side3 ?side4 A9.out).mono ?_); (case side1 => exact G.cC (Kd.R_reads' ab.out).2.2); (case side2 => exact (Kd.R_reads' ab.out).2.1); (case side3 => exact G.cC (Kd.R_reads' ao.out).2.2); (case side4 => exact (Kd.R_reads' ao.out).2.1); rintro e w' ⟨rfl, ⟨nd, rfl⟩⟩; refine ⟨_, rfl, ?_⟩))
    go_ret
    exact ⟨caac, G.cB HB.out⟩
   ·replace c10 := Bool.eq_false_iff.mpr c10; subst c10; have H1 : (some false) = some r := by rw [if_neg (show ¬ (false = true) by decide)] at H; exact H
    clear H; have H := H1; clear H1; obtain rfl := Option.some.inj H
    go_enter Tryd.func3, Tryd.ntmps3
    go_wp2_with (first | ((with_reducible refine G.f 6 rfl ?_); refine G.gL 10 Tryd.func6 #[.slice A0 l0.length c0] ?_; (with_reducible refine (laws_toIntS.calls k _ _ l0 al _ ?side1 ?side2 A3.out).mono ?_); (case side1 => exact G.cC am.out); (case side2 => exact au.out); rintro e b4 ⟨a4, rfl, ag, hb⟩; refine ⟨_, rfl, ?_⟩; have n0 := G.m (Kd.R_lower ag (below_size (G.cB HB.out))); have n1 := G.bs HB hb; clear HB; revert n0 n1; intro aa HB; (try clear hb ag); obtain ⟨bB, bC, bD⟩ := Kd.R_slice aa.out; subst bD) | ((with_reducible refine G.f 5 rfl ?_); refine G.gL 11 Tryd.func5 #[.slice bB al.length bC] ?_; (with_reducible refine (spec_LiveSay.calls k _ _ al aj _ ?side1 ?side2 A4.out).mono ?_); (case side1 => exact G.cC (Kd.R_reads' aa.out).2.2); (case side2 => exact (Kd.R_reads' aa.out).2.1); rintro e b5 ⟨rfl, hb⟩; refine ⟨_, rfl, ?_⟩; have n0 := G.rb aa hb; have n1 := G.bs HB hb; clear aa HB; revert n0 n1; intro aa HB; (try clear hb)) | ((with_reducible refine G.f 6 rfl ?_); refine G.gL 13 Tryd.func6 #[.slice A0 l0.length c0] ?_; (with_reducible refine (laws_toIntS.calls k _ _ l0 ae _ ?side1 ?side2 A5.out).mono ?_); (case side1 => exact G.cC (Kd.C_below am.out HB.out)); (case side2 => exact au.out); rintro e b6 ⟨a5, rfl, ag, hb⟩; refine ⟨_, rfl, ?_⟩; have n0 := G.re aa ag hb; have n1 := G.m (Kd.R_lower (Kd.R_new' ag (Kd.R_lt (G.cR aa.out))) (below_size (G.cB HB.out))); have n2 := G.bs HB hb; clear aa HB; revert n0 n1 n2; intro aa ab HB; (try clear hb ag); obtain ⟨a8, a9, bE⟩ := Kd.R_slice ab.out; subst bE) | ((with_reducible refine G.f 7 rfl ?_); refine G.gL 15 Tryd.func7 #[.slice a8 ae.length a9] ?_; (with_reducible refine (impl_LiveSay.calls k _ _ ae ah _ ?side1 ?side2 A6.out ?sideT).mono ?_); (case sideT => exact lay HTb.out (G.cB HB.out)); (case side1 => exact G.cC (Kd.R_reads' ab.out).2.2); (case side2 => exact (Kd.R_reads' ab.out).2.1); rintro e b7 ⟨rfl, hb⟩; refine ⟨_, rfl, ?_⟩; have n0 := G.rb aa hb; have n1 := G.rb ab hb; have n2 := G.bs HB hb; clear aa ab HB; revert n0 n1 n2; intro aa ab HB; (try clear hb)) | ((with_reducible refine G.f 6 rfl ?_); refine G.gL 21 Tryd.func6 #[.slice A0 l0.length c0] ?_; (with_reducible refine (laws_toIntS.calls k _ _ l0 ai _ ?side1 ?side2 A8.out).mono ?_); (case side1 => exact G.cC (Kd.C_below am.out HB.out)); (case side2 => exact au.out); rintro e b8 ⟨bw, rfl, ag, hb⟩; refine ⟨_, rfl, ?_⟩; have n0 := G.re aa ag hb; have n1 := G.re ab ag hb; have n2 := G.m (Kd.R_lower (Kd.R_new' (Kd.R_new' ag (Kd.R_lt (G.cR aa.out))) (Kd.R_lt (G.cR ab.out))) (below_size (G.cB HB.out))); have n3 := G.bs HB hb; clear aa ab HB; revert n0 n1 n2 n3; intro aa ab ao HB; (try clear hb ag); obtain ⟨bF, bG, bH⟩ := Kd.R_slice ao.out; subst bH) | ((with_reducible refine G.f 8 rfl ?_); refine G.gL 22 Tryd.func8 #[.slice a8 ae.length a9, .slice bF ai.length bG] ?_; (with_reducible refine (laws_eqIntS.calls k _ _ ae _ _ ai false _ ?side1 ?side2 ?side3 ?side4 A9.out).mono ?_); (case side1 => exact G.cC (Kd.R_reads' ab.out).2.2); (case side2 => exact (Kd.R_reads' ab.out).2.1); (case side3 => exact G.cC (Kd.R_reads' ao.out).2.2); (case side4 => exact (Kd.R_reads' ao.out).2.1); rintro e w' ⟨rfl, ⟨nd, rfl⟩⟩; refine ⟨_, rfl, ?_⟩))
    go_ret
    exact ⟨caac, G.cB HB.out⟩
  ·rw [if_neg c7] at H; have aI : (ah.toList == aj.toList) = false := beq_eq_false_iff_ne.mpr c7; have aR : (ah.toList != aj.toList) = true := bne_iff_ne.mpr c7; obtain rfl := Option.some.inj H
   go_enter Tryd.func3, Tryd.ntmps3
   go_wp2_with (first | ((with_reducible refine G.f 6 rfl ?_); refine G.gL 10 Tryd.func6 #[.slice A0 l0.length c0] ?_; (with_reducible refine (laws_toIntS.calls k _ _ l0 al _ ?side1 ?side2 A3.out).mono ?_); (case side1 => exact G.cC am.out); (case side2 => exact au.out); rintro e b9 ⟨a4, rfl, ag, hb⟩; refine ⟨_, rfl, ?_⟩; have n0 := G.m (Kd.R_lower ag (below_size (G.cB HB.out))); have n1 := G.bs HB hb; clear HB; revert n0 n1; intro aa HB; (try clear hb ag); obtain ⟨bI, bJ, bK⟩ := Kd.R_slice aa.out; subst bK) | ((with_reducible refine G.f 5 rfl ?_); refine G.gL 11 Tryd.func5 #[.slice bI al.length bJ] ?_; (with_reducible refine (spec_LiveSay.calls k _ _ al aj _ ?side1 ?side2 A4.out).mono ?_); (case side1 => exact G.cC (Kd.R_reads' aa.out).2.2); (case side2 => exact (Kd.R_reads' aa.out).2.1); rintro e b_ ⟨rfl, hb⟩; refine ⟨_, rfl, ?_⟩; have n0 := G.rb aa hb; have n1 := G.bs HB hb; clear aa HB; revert n0 n1; intro aa HB; (try clear hb)) | ((with_reducible refine G.f 6 rfl ?_); refine G.gL 13 Tryd.func6 #[.slice A0 l0.length c0] ?_; (with_reducible refine (laws_toIntS.calls k _ _ l0 ae _ ?side1 ?side2 A5.out).mono ?_); (case side1 => exact G.cC (Kd.C_below am.out HB.out)); (case side2 => exact au.out); rintro e ca ⟨a5, rfl, ag, hb⟩; refine ⟨_, rfl, ?_⟩; have n0 := G.re aa ag hb; have n1 := G.m (Kd.R_lower (Kd.R_new' ag (Kd.R_lt (G.cR aa.out))) (below_size (G.cB HB.out))); have n2 := G.bs HB hb; clear aa HB; revert n0 n1 n2; intro aa ab HB; (try clear hb ag); obtain ⟨bL, bM, bN⟩ := Kd.R_slice ab.out; subst bN) | ((with_reducible refine G.f 7 rfl ?_); refine G.gL 15 Tryd.func7 #[.slice bL ae.length bM] ?_; (with_reducible refine (impl_LiveSay.calls k _ _ ae ah _ ?side1 ?side2 A6.out ?sideT).mono ?_); (case sideT => exact lay HTb.out (G.cB HB.out)); (case side1 => exact G.cC (Kd.R_reads' ab.out).2.2); (case side2 => exact (Kd.R_reads' ab.out).2.1); rintro e cd ⟨rfl, hb⟩; refine ⟨_, rfl, ?_⟩; have n0 := G.rb aa hb; have n1 := G.rb ab hb; have n2 := G.bs HB hb; clear aa ab HB; revert n0 n1 n2; intro aa ab HB; (try clear hb)))
   go_ret
   exact ⟨caac, G.cB HB.out⟩

end Go.Proofs.YtbpkngahnmoocaaDoor.P
