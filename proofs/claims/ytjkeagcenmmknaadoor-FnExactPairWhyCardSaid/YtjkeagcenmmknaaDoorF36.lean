-- Printed by a program of this session (mp.py, over the kit's print). Not trusted: Lean checks it.
import Derived.Test.YtjkeagcenmmknaaDoorF0
namespace Go.Proofs.YtjkeagcenmmknaaDoor.P
open Go.RowKit Go.Proofs.YtjkeagcenmmknaaDoorW.PrintWords Go.Proofs.YtjkeagcenmmknaaDoorW.PrintLast Go.Proofs.YtjkeagcenmmknaaDoorW.PrintMore
attribute [local go_sem] max2_int min2_int max_two min_two max_three min_three max_four min_four   -- for this text's walks alone
set_option linter.unusedVariables false
set_option linter.unusedSimpArgs false

theorem caeD {p : Prop} (h : p := by repeat (first | (with_reducible first | exact HK.out | apply Kept.alloc | apply Kept.drewN | apply Kept.drew) | exact HK.out)) : p := h
theorem caeC {p : Prop} (h : p := by first | rfl | (simp; done) | (simp [*]; done)) : p := h
/-! ### laws_eqIntS: function 27 -/
def laws_eqIntS.l0 : Nat → List Int → List Int → Int → Option (Bool)
 | 0, _, _, _ => none
 | k + 1, x0, x1, x5 => if x5 < (x0.length : Int) then (if 0 ≤ x5 then (if x5 < (x1.length : Int) then (if (rd x0 x5) = (rd x1 x5) then (laws_eqIntS.l0 k x0 x1 (wrap64 (x5 + 1))) else (some false)) else (none)) else (none)) else (some true)
def laws_eqIntS.f (k : Nat) (l0 : List Int) (l1 : List Int) : Option (Bool) := if (l0.length : Int) = (l1.length : Int) then (laws_eqIntS.l0 k l0 l1 0) else (some false)
theorem laws_eqIntS.mono_l : ∀ k, (∀ y0 y1 y2, LeO (laws_eqIntS.l0 k y0 y1 y2) (laws_eqIntS.l0 (k + 1) y0 y1 y2))
 | 0 => fun _ _ _ r h => by simp [laws_eqIntS.l0] at h
 | k + 1 => by
  have ac := laws_eqIntS.mono_l k
  ·intro y0 y1 y2; unfold laws_eqIntS.l0
   repeat' first
   | (with_reducible exact ac _ _ _)
   | (with_reducible exact LeO.refl _)
   | (with_reducible exact LeO.none _)
   | (with_reducible refine LeO.ite ?_ ?_)
   | (with_reducible refine LeO.bind ?_ (fun _ => ?_))
   | exact ac _ _ _
   | exact LeO.none _
   | refine LeO.ite ?_ ?_
   | refine LeO.bind ?_ (fun _ => ?_)
theorem laws_eqIntS.mono : ∀ a0 a1 k, LeO (laws_eqIntS.f k a0 a1) (laws_eqIntS.f (k + 1) a0 a1) := by
 intro a0 a1 k; have ac := laws_eqIntS.mono_l k; unfold laws_eqIntS.f
 repeat' first | (with_reducible first | exact ac _ _ _ | exact LeO.refl _ | exact LeO.none _ | refine LeO.ite ?_ ?_ | refine LeO.bind ?_ (fun _ => ?_)) | exact ac _ _ _ | exact LeO.none _ | refine LeO.ite ?_ ?_ | refine LeO.bind ?_ (fun _ => ?_)
set_option maxHeartbeats 8000000 in
set_option maxRecDepth 100000 in
theorem laws_eqIntS.calls (k : Nat) (A0 : Option Addr) (c0 : Nat) (l0 : List Int) (A1 : Option Addr) (c1 : Nat) (l1 : List Int) (r : Bool) (w : World) (av : Kd.C (Kd.int .i64) w A0 l0.length l0) (aw : l0.length ≤ c0) (hr1 : Kd.C (Kd.int .i64) w A1 l1.length l1) (aQ : l1.length ≤ c1) (h : laws_eqIntS.f k l0 l1 = some r) :
  Calls Tryd.prog 27 #[.slice A0 l0.length c0, .slice A1 l1.length c1] w fun e w' => e = .returned (.bool r) ∧ Drawn0 w w' := by
 have ax := G.m av; have aY := G.m aw; clear av aw; have aR := G.m hr1; have bc := G.m aQ; clear hr1 aQ; have H : (if (l0.length : Int) = (l1.length : Int) then (laws_eqIntS.l0 k l0 l1 0) else (some false)) = some r := h; clear h
 by_cases c3 : (l0.length : Int) = (l1.length : Int)
 ·rw [if_pos c3] at H; have aq : ((l0.length : Int) == (l1.length : Int)) = true := beq_iff_eq.mpr c3; have aH : ((l0.length : Int) != (l1.length : Int)) = false := bne_eq_false_iff_eq.mpr c3; have aI : (l0.length == l1.length) = true := by first | simpa using c3 | (simp at c3 ⊢; omega)
  clear c3; have H' := G.m H; clear H
  go_enter Tryd.func27, Tryd.ntmps27
  go_wp2
  repeat (go_quiet (fail); try go_wp2)
  go_loopg [5] k (fun kq v5 w' => ∃ (aa : Int), v5 = .int .i64 aa ∧ Aside0 (laws_eqIntS.l0 kq l0 l1 aa = some r) ∧ Aside0 (kq ≤ k) ∧ Drawn0 w w')
  case atStart => exact ⟨(0), (caeC), H', ⟨Nat.le_refl _⟩, by repeat (first | exact Drawn0.refl _ | apply Drawn0.step)⟩
  case round =>
   clear H'; (try clear aq aH aI); obtain ⟨aa, rfl, HA, au, ⟨m1, rfl⟩⟩ := hrel; cases gk with
   | zero => exact absurd HA.out (by simp [laws_eqIntS.l0])
   | succ k1 =>
    have H := HA.out; clear HA; simp only [laws_eqIntS.l0] at H
    by_cases c4 : aa < (l0.length : Int)
    ·rw [if_pos c4] at H; have az : decide (aa < (l0.length : Int)) = true := decide_eq_true c4; clear c4
     by_cases c5 : 0 ≤ aa
     ·rw [if_pos c5] at H; have aJ : decide (0 ≤ aa) = true := decide_eq_true c5; clear c5
      by_cases c6 : aa < (l1.length : Int)
      ·rw [if_pos c6] at H; have ba : decide (aa < (l1.length : Int)) = true := decide_eq_true c6; clear c6
       by_cases c7 : (rd l0 aa) = (rd l1 aa)
       ·rw [if_pos c7] at H; have aV : ((rd l0 aa) == (rd l1 aa)) = true := beq_iff_eq.mpr c7; have aW : ((rd l0 aa) != (rd l1 aa)) = false := bne_eq_false_iff_eq.mpr c7; clear c7; have H' := G.m H; clear H; have ai : 0 ≤ (aa : Int) := of_decide_eq_true (G.asm); have aj : aa < (l0.length : Int) := of_decide_eq_true (G.asm); obtain ⟨aM, aA, aE⟩ := Kd.at_int ax.out aa ai aj; cases aA; replace ai := eq_true ai; replace aj := eq_true aj; have ak : 0 ≤ (aa : Int) := of_decide_eq_true (G.asm); have al : aa < (l1.length : Int) := of_decide_eq_true (G.asm); obtain ⟨aN, aB, aF⟩ := Kd.at_int aR.out aa ak al; cases aB; replace ak := eq_true ak; replace al := eq_true al
        go_wp2
        repeat (go_quiet (fail); try go_wp2)
        go_roundg k1
        case measure => have := au.out; omega
        case rel => exact ⟨(wrap64 (aa + 1)), (caeC), H', ⟨by have := au.out; omega⟩, by repeat (first | exact Drawn0.refl _ | apply Drawn0.step)⟩
       ·rw [if_neg c7] at H; have aV : ((rd l0 aa) == (rd l1 aa)) = false := beq_eq_false_iff_ne.mpr c7; have aW : ((rd l0 aa) != (rd l1 aa)) = true := bne_iff_ne.mpr c7; obtain rfl := Option.some.inj H; have ai : 0 ≤ (aa : Int) := of_decide_eq_true (G.asm); have aj : aa < (l0.length : Int) := of_decide_eq_true (G.asm); obtain ⟨aM, aA, aE⟩ := Kd.at_int ax.out aa ai aj; cases aA; replace ai := eq_true ai; replace aj := eq_true aj; have ak : 0 ≤ (aa : Int) := of_decide_eq_true (G.asm); have al : aa < (l1.length : Int) := of_decide_eq_true (G.asm); obtain ⟨aN, aB, aF⟩ := Kd.at_int aR.out aa ak al; cases aB; replace ak := eq_true ak; replace al := eq_true al
        go_wp2
        repeat (go_quiet (fail); try go_wp2)
        go_ret
        exact ⟨caeC, by repeat (first | exact Drawn0.refl _ | apply Drawn0.step)⟩
      ·rw [if_neg c6] at H; exact absurd H (by simp)
     ·rw [if_neg c5] at H; exact absurd H (by simp)
    ·rw [if_neg c4] at H; have az : decide (aa < (l0.length : Int)) = false := decide_eq_false c4; clear c4; obtain rfl := Option.some.inj H
     go_wp2
     repeat (go_quiet (fail); try go_wp2)
     go_ret
     exact ⟨caeC, by repeat (first | exact Drawn0.refl _ | apply Drawn0.step)⟩
 ·rw [if_neg c3] at H; have aq : ((l0.length : Int) == (l1.length : Int)) = false := beq_eq_false_iff_ne.mpr c3; have aH : ((l0.length : Int) != (l1.length : Int)) = true := bne_iff_ne.mpr c3; have aI : (l0.length == l1.length) = false := by first | simpa using c3 | (simp at c3 ⊢; omega)
  obtain rfl := Option.some.inj H
  go_enter Tryd.func27, Tryd.ntmps27
  go_wp2
  repeat (go_quiet (fail); try go_wp2)
  go_ret
  exact ⟨caeC, by repeat (first | exact Drawn0.refl _ | apply Drawn0.step)⟩

/-! ### laws_markIntS: function 28 -/
def laws_markIntS.l0 : Nat → List Int → Int → Int → Option (Int × List Int)
 | 0, _, _, _ => none
 | k + 1, x0, x1, x5 => if x5 < (x0.length : Int) then (if 0 ≤ x5 then (laws_markIntS.l0 k (x0.set (x5 : Int).toNat x1) (wrap64 (x1 + 1)) (wrap64 (x5 + 1))) else (none)) else (some (x1, x0))
def laws_markIntS.f (k : Nat) (l0 : List Int) (a1 : Int) : Option (Int × List Int) := laws_markIntS.l0 k l0 a1 0
theorem laws_markIntS.mono_l : ∀ k, (∀ y0 y1 y2, LeO (laws_markIntS.l0 k y0 y1 y2) (laws_markIntS.l0 (k + 1) y0 y1 y2))
 | 0 => fun _ _ _ r h => by simp [laws_markIntS.l0] at h
 | k + 1 => by
  have ac := laws_markIntS.mono_l k
  ·intro y0 y1 y2; unfold laws_markIntS.l0
   repeat' first
   | (with_reducible exact ac _ _ _)
   | (with_reducible exact LeO.refl _)
   | (with_reducible exact LeO.none _)
   | (with_reducible refine LeO.ite ?_ ?_)
   | (with_reducible refine LeO.bind ?_ (fun _ => ?_))
   | exact ac _ _ _
   | exact LeO.none _
   | refine LeO.ite ?_ ?_
   | refine LeO.bind ?_ (fun _ => ?_)
theorem laws_markIntS.mono : ∀ a0 a1 k, LeO (laws_markIntS.f k a0 a1) (laws_markIntS.f (k + 1) a0 a1) := by
 intro a0 a1 k; have ac := laws_markIntS.mono_l k; unfold laws_markIntS.f
 repeat' first | (with_reducible first | exact ac _ _ _ | exact LeO.refl _ | exact LeO.none _ | refine LeO.ite ?_ ?_ | refine LeO.bind ?_ (fun _ => ?_)) | exact ac _ _ _ | exact LeO.none _ | refine LeO.ite ?_ ?_ | refine LeO.bind ?_ (fun _ => ?_)
set_option maxHeartbeats 8000000 in
set_option maxRecDepth 100000 in
theorem laws_markIntS.calls (k : Nat) (ah : Nat → Prop) (ag : Value) (l0 : List Int) (a1 : Int) (r1 : Int) (r2 : List Int) (w0 w : World) (hB : Below w0.heap.size w0 w) (aZ : Kd.R (Kd.int .i64) 3 w w0.heap.size ah ag l0) (h : laws_markIntS.f k l0 a1 = some (r1, r2)) :
  Calls Tryd.prog 28 #[ag, .int .i64 a1] w fun e w' => e = .returned (.int .i64 r1) ∧ Kd.R (Kd.int .i64) 3 w' w0.heap.size (fun k_ => (ah k_ ∨ w.heap.size ≤ k_)) ag r2 ∧ Below w0.heap.size w0 w' ∧ Kept w w' (fun k_ => ah k_) := by
 have a2 := G.m (show Kd.R (Kd.int .i64) 3 w w0.heap.size (fun k_ => (ah k_ ∨ w.heap.size ≤ k_)) ag l0 from Kd.R_mono aZ (fun k_ hk => (.inl hk))); have HK := G.m (Kept.refl w (fun k_ => ah k_)); have bd := G.m hB.size; have HB := G.m hB; clear hB; have H : (laws_markIntS.l0 k l0 a1 0) = some (r1, r2) := h; clear h; have H' := G.m H; clear H
 go_enter Tryd.func28, Tryd.ntmps28
 go_wp2
 go_loopg [1, 5] k (fun kq v1 v5 w' => ∃ (af : List Int) (ab : Int) (aa : Int), v1 = .int .i64 ab ∧ v5 = .int .i64 aa ∧ Aside0 (laws_markIntS.l0 kq af ab aa = some (r1, r2)) ∧ Aside0 (kq ≤ k) ∧ Aside0 (Kd.R (Kd.int .i64) 3 w' w0.heap.size (fun k_ => (ah k_ ∨ w.heap.size ≤ k_)) ag af) ∧ Aside0 (Kept w w' (fun k_ => ah k_)) ∧ Aside0 (Below w0.heap.size w0 w'))
 case atStart => exact ⟨(l0), (a1), (0), (caeC), (caeC), H', ⟨Nat.le_refl _⟩, ⟨G.cR a2.out⟩, ⟨caeD⟩, ⟨G.cB HB.out⟩⟩
 case round =>
  clear H'; obtain ⟨af, ab, aa, rfl, rfl, HA, au, ae, HK, HB⟩ := hrel; cases gk with
  | zero => exact absurd HA.out (by simp [laws_markIntS.l0])
  | succ k1 =>
   have H := HA.out; clear HA; simp only [laws_markIntS.l0] at H
   by_cases c3 : aa < (af.length : Int)
   ·rw [if_pos c3] at H; have aq : decide (aa < (af.length : Int)) = true := decide_eq_true c3; clear c3
    by_cases c4 : 0 ≤ aa
    ·rw [if_pos c4] at H; have az : decide (0 ≤ aa) = true := decide_eq_true c4; clear c4; obtain ⟨aC, ap⟩ : ∃ y_ : List Int, y_ = (af.set (aa : Int).toNat ab) := ⟨_, rfl⟩; replace H : (laws_markIntS.l0 k1 aC (wrap64 (ab + 1)) (wrap64 (aa + 1))) = some (r1, r2) := by first | (rw [ap]; with_reducible exact H) | (have aK := (Option.bind_some _ _).symm.trans H; rw [ap]; with_reducible exact aK) | (have aK := (Option.bind_some _ _).symm.trans H; with_reducible exact aK) | with_reducible exact H | (rw [ap]; exact H) | exact H
     have aO := G.m ap; clear ap; have H' := G.m H; clear H; obtain ⟨bf, a3, a4⟩ := Kd.R_slice ae.out; subst a4; have p5 : 0 ≤ (aa : Int) := of_decide_eq_true (G.asm); have q5 : (aa : Int) < ((af.length : Int) : Int) := of_decide_eq_true (G.asm); obtain ⟨ay, bh, aS, aT, a5, bj, aU⟩ := Kd.R_form ae.out (by omega); (first | cases aS | (injection aS with ea_ en_ ec_; (first | subst ea_ | (injection ea_ with ea_; subst ea_)); subst ec_; clear en_)); have a6 := G.m aT; have bk := G.m aU; clear aT a5 aU; have a8 := G.m (show (ah ay ∨ w.heap.size ≤ ay) from (ae.out.1 _ rfl)); obtain ⟨a9, a_⟩ := Kd.R_celln 0 ae.out (aa : Int) p5 q5; replace p5 := eq_true p5; replace q5 := eq_true q5; have aL := Kd.R_putg ae.out (aa : Int) ab
     go_wp2_with (first | ((with_reducible refine gate_store (t := 3) (p := 15) rfl ?_); refine store_event (t := 3) (p := 15) (v := ?vo_w8) (w1 := (wr.setCell ⟨ay, (aa : Int).toNat, none⟩ (.int .i64 ab))) ?hg ?ho ?hn ?hr ?_; (case ho => rfl); (case hg => rfl); (case hn => rfl); (case hr => first | (go_simp; done) | (go_simp; rfl)); intro w8 hw; have hg : wr.grownBy w8 (some ay) := (by rw [hw]; exact aL.2); have hp_ : Kd.R (Kd.int .i64) 3 w8 w0.heap.size (fun k_ => (ah k_ ∨ w.heap.size ≤ k_)) (.slice (some ⟨ay, 0, none⟩) af.length a3) aC := (by rw [hw, aO.out]; exact aL.1); clear aL; have n0 := G.m (hp_); have n1 := G.m ((by rw [hw]; exact below_set (HB.out) a6.out : Below w0.heap.size w0 w8)); have n2 := G.m (Kept.of_grown (S := (fun k_ => ah k_)) hg (caeD) (fun k_ e_ => (ae.out.1 k_ e_))); clear ae HB HK; revert n0 n1 n2; intro ae HB HK; clear hg hw hp_))
     go_roundg k1
     case measure => have := au.out; omega
     case rel => exact ⟨(aC), (wrap64 (ab + 1)), (wrap64 (aa + 1)), (caeC), (caeC), H', ⟨by have := au.out; omega⟩, ⟨G.cR ae.out⟩, ⟨caeD⟩, ⟨G.cB HB.out⟩⟩
    ·rw [if_neg c4] at H; exact absurd H (by simp)
   ·rw [if_neg c3] at H; have aq : decide (aa < (af.length : Int)) = false := decide_eq_false c3; clear c3; simp only [Option.some.injEq, Prod.mk.injEq] at H; obtain ⟨rfl, rfl⟩ := H; obtain ⟨bl, bm, a7⟩ := Kd.R_slice ae.out; subst a7
    go_wp2
    go_ret
    exact ⟨by first | rfl | (simp [errW_none, errW_some] <;> rfl) | (simp [*, errW_none, errW_some] <;> rfl), G.cR ae.out, G.cB HB.out, by repeat (first | (with_reducible first | exact HK.out | apply Kept.alloc | apply Kept.drewN | apply Kept.drew) | exact HK.out)⟩

/-! ### laws_heldIntS: function 29 -/
def laws_heldIntS.l0 : Nat → List Int → Int → Int → Option (Int)
 | 0, _, _, _ => none
 | k + 1, x0, x1, x5 => if x5 < (x0.length : Int) then (if 0 ≤ x5 then (if (rd x0 x5) = x1 then (laws_heldIntS.l0 k x0 (wrap64 (x1 + 1)) (wrap64 (x5 + 1))) else (some (-1))) else (none)) else (some x1)
def laws_heldIntS.f (k : Nat) (l0 : List Int) (a1 : Int) : Option (Int) := laws_heldIntS.l0 k l0 a1 0
theorem laws_heldIntS.mono_l : ∀ k, (∀ y0 y1 y2, LeO (laws_heldIntS.l0 k y0 y1 y2) (laws_heldIntS.l0 (k + 1) y0 y1 y2))
 | 0 => fun _ _ _ r h => by simp [laws_heldIntS.l0] at h
 | k + 1 => by
  have ac := laws_heldIntS.mono_l k
  ·intro y0 y1 y2; unfold laws_heldIntS.l0
   repeat' first
   | (with_reducible exact ac _ _ _)
   | (with_reducible exact LeO.refl _)
   | (with_reducible exact LeO.none _)
   | (with_reducible refine LeO.ite ?_ ?_)
   | (with_reducible refine LeO.bind ?_ (fun _ => ?_))
   | exact ac _ _ _
   | exact LeO.none _
   | refine LeO.ite ?_ ?_
   | refine LeO.bind ?_ (fun _ => ?_)
theorem laws_heldIntS.mono : ∀ a0 a1 k, LeO (laws_heldIntS.f k a0 a1) (laws_heldIntS.f (k + 1) a0 a1) := by
 intro a0 a1 k; have ac := laws_heldIntS.mono_l k; unfold laws_heldIntS.f
 repeat' first | (with_reducible first | exact ac _ _ _ | exact LeO.refl _ | exact LeO.none _ | refine LeO.ite ?_ ?_ | refine LeO.bind ?_ (fun _ => ?_)) | exact ac _ _ _ | exact LeO.none _ | refine LeO.ite ?_ ?_ | refine LeO.bind ?_ (fun _ => ?_)
set_option maxHeartbeats 8000000 in
set_option maxRecDepth 100000 in
theorem laws_heldIntS.calls (k : Nat) (A0 : Option Addr) (c0 : Nat) (l0 : List Int) (a1 : Int) (r : Int) (w : World) (av : Kd.C (Kd.int .i64) w A0 l0.length l0) (aw : l0.length ≤ c0) (h : laws_heldIntS.f k l0 a1 = some r) :
  Calls Tryd.prog 29 #[.slice A0 l0.length c0, .int .i64 a1] w fun e w' => e = .returned (.int .i64 r) ∧ Drawn0 w w' := by
 have ax := G.m av; have aY := G.m aw; clear av aw; have H : (laws_heldIntS.l0 k l0 a1 0) = some r := h; clear h; have H' := G.m H; clear H
 go_enter Tryd.func29, Tryd.ntmps29
 go_wp2
 go_loopg [1, 5] k (fun kq v1 v5 w' => ∃ (ab : Int) (aa : Int), v1 = .int .i64 ab ∧ v5 = .int .i64 aa ∧ Aside0 (laws_heldIntS.l0 kq l0 ab aa = some r) ∧ Aside0 (kq ≤ k) ∧ Drawn0 w w')
 case atStart => exact ⟨(a1), (0), (caeC), (caeC), H', ⟨Nat.le_refl _⟩, by repeat (first | exact Drawn0.refl _ | apply Drawn0.step)⟩
 case round =>
  clear H'; obtain ⟨ab, aa, rfl, rfl, HA, au, ⟨m1, rfl⟩⟩ := hrel; cases gk with
  | zero => exact absurd HA.out (by simp [laws_heldIntS.l0])
  | succ k1 =>
   have H := HA.out; clear HA; simp only [laws_heldIntS.l0] at H
   by_cases c3 : aa < (l0.length : Int)
   ·rw [if_pos c3] at H; have aq : decide (aa < (l0.length : Int)) = true := decide_eq_true c3; clear c3
    by_cases c4 : 0 ≤ aa
    ·rw [if_pos c4] at H; have az : decide (0 ≤ aa) = true := decide_eq_true c4; clear c4
     by_cases c5 : (rd l0 aa) = ab
     ·rw [if_pos c5] at H; have aJ : ((rd l0 aa) == ab) = true := beq_iff_eq.mpr c5; have aX : ((rd l0 aa) != ab) = false := bne_eq_false_iff_eq.mpr c5; clear c5; have H' := G.m H; clear H; have am : 0 ≤ (aa : Int) := of_decide_eq_true (G.asm); have ao : aa < (l0.length : Int) := of_decide_eq_true (G.asm); obtain ⟨aP, aD, aG⟩ := Kd.at_int ax.out aa am ao; cases aD; replace am := eq_true am; replace ao := eq_true ao
      go_wp2
      go_roundg k1
      case measure => have := au.out; omega
      case rel => exact ⟨(wrap64 (ab + 1)), (wrap64 (aa + 1)), (caeC), (caeC), H', ⟨by have := au.out; omega⟩, by repeat (first | exact Drawn0.refl _ | apply Drawn0.step)⟩
     ·rw [if_neg c5] at H; have aJ : ((rd l0 aa) == ab) = false := beq_eq_false_iff_ne.mpr c5; have aX : ((rd l0 aa) != ab) = true := bne_iff_ne.mpr c5; obtain rfl := Option.some.inj H; have am : 0 ≤ (aa : Int) := of_decide_eq_true (G.asm); have ao : aa < (l0.length : Int) := of_decide_eq_true (G.asm); obtain ⟨aP, aD, aG⟩ := Kd.at_int ax.out aa am ao; cases aD; replace am := eq_true am; replace ao := eq_true ao
      go_wp2
      go_ret
      exact ⟨caeC, by repeat (first | exact Drawn0.refl _ | apply Drawn0.step)⟩
    ·rw [if_neg c4] at H; exact absurd H (by simp)
   ·rw [if_neg c3] at H; have aq : decide (aa < (l0.length : Int)) = false := decide_eq_false c3; clear c3; obtain rfl := Option.some.inj H
    go_wp2
    go_ret
    exact ⟨caeC, by repeat (first | exact Drawn0.refl _ | apply Drawn0.step)⟩

end Go.Proofs.YtjkeagcenmmknaaDoor.P
