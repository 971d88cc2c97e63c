-- Printed by a program of this session (mp.py, over the kit's print). Not trusted: Lean checks it.
import Derived.Test.YtbkdpnfjcnkoeaaF0
namespace Go.Proofs.Ytbkdpnfjcnkoeaa.P
open Go.RowKit Go.Proofs.YtbkdpnfjcnkoeaaW.PrintWords Go.Proofs.YtbkdpnfjcnkoeaaW.PrintLast Go.Proofs.YtbkdpnfjcnkoeaaW.PrintMore
attribute [local go_sem] max2_int min2_int max_two min_two max_three min_three max_four min_four   -- for this text's walks alone
set_option linter.unusedVariables false
set_option linter.unusedSimpArgs false

/-! ### laws_toIntS: function 20 -/
def laws_toIntS.l0 : Nat → List Int → List Int → Int → Option (List Int)
 | 0, _, _, _ => none
 | k + 1, x0, x3, x4 => if x4 < (x0.length : Int) then (if 0 ≤ x4 then (if x4 < (x3.length : Int) then (laws_toIntS.l0 k x0 (x3.set (x4 : Int).toNat (rd x0 x4)) (wrap64 (x4 + 1))) else (none)) else (none)) else (some x3)
def laws_toIntS.f (k : Nat) (l0 : List Int) : Option (List Int) := if 0 ≤ (l0.length : Int) then (if ((l0.length : Int) : Int).toNat ≤ 35184372088832 then (laws_toIntS.l0 k l0 (List.replicate ((l0.length : Int) : Int).toNat 0) 0) else (none)) else (none)
theorem laws_toIntS.mono_l : ∀ k, (∀ y0 y1 y2, LeO (laws_toIntS.l0 k y0 y1 y2) (laws_toIntS.l0 (k + 1) y0 y1 y2))
 | 0 => fun _ _ _ r h => by simp [laws_toIntS.l0] at h
 | k + 1 => by
  have ai := laws_toIntS.mono_l k
  ·intro y0 y1 y2; unfold laws_toIntS.l0
   repeat' first
   | (with_reducible exact ai _ _ _)
   | (with_reducible exact LeO.refl _)
   | (with_reducible exact LeO.none _)
   | (with_reducible refine LeO.ite ?_ ?_)
   | (with_reducible refine LeO.bind ?_ (fun _ => ?_))
   | exact ai _ _ _
   | exact LeO.none _
   | refine LeO.ite ?_ ?_
   | refine LeO.bind ?_ (fun _ => ?_)
theorem laws_toIntS.mono : ∀ a0 k, LeO (laws_toIntS.f k a0) (laws_toIntS.f (k + 1) a0) := by
 intro a0 k; have ai := laws_toIntS.mono_l k; unfold laws_toIntS.f
 repeat' first | (with_reducible first | exact ai _ _ _ | exact LeO.refl _ | exact LeO.none _ | refine LeO.ite ?_ ?_ | refine LeO.bind ?_ (fun _ => ?_)) | exact ai _ _ _ | exact LeO.none _ | refine LeO.ite ?_ ?_ | refine LeO.bind ?_ (fun _ => ?_)
set_option maxHeartbeats 8000000 in
set_option maxRecDepth 100000 in
theorem laws_toIntS.calls (k : Nat) (A0 : Option Addr) (c0 : Nat) (l0 : List Int) (r : List Int) (w : World) (ay : Kd.C (Kd.int .i64) w A0 l0.length l0) (az : l0.length ≤ c0) (h : laws_toIntS.f k l0 = some r) :
  Calls Try.prog 20 #[.slice A0 l0.length c0] w fun e w' => ∃ aA : Value, e = .returned (aA) ∧ Kd.R (Kd.int .i64) 3 w' w.heap.size (fun _ => True) aA r ∧ Below w.heap.size w w' := by
 have aM := G.m ay; have aV := G.m az; clear ay az; have HB := G.m (Below.refl w.heap.size w); have H : (if 0 ≤ (l0.length : Int) then (if ((l0.length : Int) : Int).toNat ≤ 35184372088832 then (laws_toIntS.l0 k l0 (List.replicate ((l0.length : Int) : Int).toNat 0) 0) else (none)) else (none)) = some r := h; clear h
 by_cases c2 : 0 ≤ (l0.length : Int)
 ·rw [if_pos c2] at H; have aF := eq_true c2; have aG : decide (0 ≤ (l0.length : Int)) = true := decide_eq_true c2; clear c2
  by_cases c3 : ((l0.length : Int) : Int).toNat ≤ 35184372088832
  ·rw [if_pos c3] at H; have aH := eq_true c3; have aI : decide (((l0.length : Int) : Int).toNat ≤ 35184372088832) = true := decide_eq_true c3; clear c3; obtain ⟨aq, ae⟩ : ∃ y_ : List Int, y_ = (List.replicate ((l0.length : Int) : Int).toNat 0) := ⟨_, rfl⟩; replace H : (laws_toIntS.l0 k l0 aq 0) = some r := by first | (rw [ae]; with_reducible exact H) | (have ag := (Option.bind_some _ _).symm.trans H; rw [ae]; with_reducible exact ag) | (have ag := (Option.bind_some _ _).symm.trans H; with_reducible exact ag) | with_reducible exact H | (rw [ae]; exact H) | exact H
   have ap := G.m ae; clear ae; have H' := G.m H; clear H
   go_enter Try.func20, Try.ntmps20
   go_wp2_with (first | ((with_reducible refine G.h 7 rfl ?_); refine Kd.R_make (Kd.int .i64) _ 3 rfl (N := 7) rfl 33 _ _ rfl (l0.length : Int) rfl rfl Try.underlying33 (.int .i64 0) 8 info3 rfl (by decide) (by omega) 0 (ok := fun _ => True) (okp := fun _ => True) rfl (fun _ hk => hk) trivial (of_decide_eq_true (G.asm)) (Nat.le_trans (Nat.mul_le_mul_right _ (of_decide_eq_true (G.asm) : (l0.length : Int).toNat ≤ 35184372088832)) (by omega)) (Below.refl _ _) (Nat.le_refl _) ?_; intro aJ w4 aj hb hg_ hnew_; clear hg_ hnew_; (first | rw [← ap.out] at aj | (simp only [Int.reduceToNat] at aj; rw [← ap.out] at aj)); have n0 := G.m (Kd.R_lower aj (below_size (G.cB HB.out))); have n1 := G.bs HB hb; clear HB; revert n0 n1; intro aw HB; clear hb aj))
   go_loopg [4] k (fun kq v4 w' => ∃ (ab : List Int) (aa : Int), v4 = .int .i64 aa ∧ Aside0 (laws_toIntS.l0 kq l0 ab aa = some r) ∧ Aside0 (kq ≤ k) ∧ Aside0 (Kd.R (Kd.int .i64) 3 w' w.heap.size (fun _ => True) aJ ab) ∧ Aside0 (Below w.heap.size w w'))
   case atStart => exact ⟨(aq), (0), (by first | rfl | (simp; done) | (simp [*]; done)), H', ⟨Nat.le_refl _⟩, ⟨G.cR aw.out⟩, ⟨G.cB HB.out⟩⟩
   case round =>
    clear H'; (try clear aF aG aH aI); obtain ⟨ab, aa, rfl, HA, aB, ac, HB⟩ := hrel; cases gk with
    | zero => exact absurd HA.out (by simp [laws_toIntS.l0])
    | succ k1 =>
     have H := HA.out; clear HA; simp only [laws_toIntS.l0] at H
     by_cases c6 : aa < (l0.length : Int)
     ·rw [if_pos c6] at H; have aK : decide (aa < (l0.length : Int)) = true := decide_eq_true c6; clear c6
      by_cases c7 : 0 ≤ aa
      ·rw [if_pos c7] at H; have aT : decide (0 ≤ aa) = true := decide_eq_true c7; clear c7
       by_cases c8 : aa < (ab.length : Int)
       ·rw [if_pos c8] at H; have aU : decide (aa < (ab.length : Int)) = true := decide_eq_true c8; clear c8; obtain ⟨ak, af⟩ : ∃ y_ : List Int, y_ = (ab.set (aa : Int).toNat (rd l0 aa)) := ⟨_, rfl⟩; replace H : (laws_toIntS.l0 k1 l0 ak (wrap64 (aa + 1))) = some r := by first | (rw [af]; with_reducible exact H) | (have ag := (Option.bind_some _ _).symm.trans H; rw [af]; with_reducible exact ag) | (have ag := (Option.bind_some _ _).symm.trans H; with_reducible exact ag) | with_reducible exact H | (rw [af]; exact H) | exact H
        have ax := G.m af; clear af; have H' := G.m H; clear H; have al : 0 ≤ (aa : Int) := of_decide_eq_true (G.asm); have am : aa < (l0.length : Int) := of_decide_eq_true (G.asm); obtain ⟨aQ, aL, ah⟩ := Kd.at_int aM.out aa al am; cases aL; replace ah := G.hx HB ah; replace al := eq_true al; replace am := eq_true am; have p9 : 0 ≤ (aa : Int) := of_decide_eq_true (G.asm); have q9 : (aa : Int) < ((ab.length : Int) : Int) := of_decide_eq_true (G.asm); obtain ⟨au, aN, aC, aD, aO, aW, aE⟩ := Kd.R_form ac.out (by omega); (first | cases aC | (injection aC with ea_ en_ ec_; (first | subst ea_ | (injection ea_ with ea_; subst ea_)); subst ec_; clear en_)); have aP := G.m aD; have aX := G.m aE; clear aD aO aE; obtain ⟨aR, aS⟩ := Kd.R_celln 0 ac.out (aa : Int) p9 q9; replace p9 := eq_true p9; replace q9 := eq_true q9; have ao := Kd.R_putg ac.out (aa : Int) (rd l0 aa)
        go_wp2_with (first | ((with_reducible refine gate_store (t := 3) (p := 20) rfl ?_); refine store_event (t := 3) (p := 20) (v := ?vo_w11) (w1 := (wr.setCell ⟨au, (aa : Int).toNat, none⟩ (.int .i64 (rd l0 aa)))) ?hg ?ho ?hn ?hr ?_; (case ho => rfl); (case hg => rfl); (case hn => rfl); (case hr => first | (go_simp; done) | (go_simp; rfl)); intro av hw; have hg : wr.grownBy av (some au) := (by rw [hw]; exact ao.2); have hp_ : Kd.R (Kd.int .i64) 3 av w.heap.size (fun _ => True) (.slice (some ⟨au, 0, none⟩) ab.length aN) ak := (by rw [hw, ax.out]; exact ao.1); clear ao; have n0 := G.m (hp_); have n1 := G.m ((by rw [hw]; exact below_set (HB.out) aP.out : Below w.heap.size w av)); clear ac HB; revert n0 n1; intro ac HB; clear hg hw hp_))
        go_roundg k1
        case measure => have := aB.out; omega
        case rel => exact ⟨(ak), (wrap64 (aa + 1)), (by first | rfl | (simp; done) | (simp [*]; done)), H', ⟨by have := aB.out; omega⟩, ⟨G.cR ac.out⟩, ⟨G.cB HB.out⟩⟩
       ·rw [if_neg c8] at H; exact absurd H (by simp)
      ·rw [if_neg c7] at H; exact absurd H (by simp)
     ·rw [if_neg c6] at H; have aK : decide (aa < (l0.length : Int)) = false := decide_eq_false c6; clear c6; obtain rfl := Option.some.inj H
      go_wp2
      go_ret
      exact ⟨_, by first | rfl | (simp [errW_none, errW_some] <;> rfl) | (simp [*, errW_none, errW_some] <;> rfl), G.cR ac.out, G.cB HB.out⟩
  ·rw [if_neg c3] at H; exact absurd H (by simp)
 ·rw [if_neg c2] at H; exact absurd H (by simp)

end Go.Proofs.Ytbkdpnfjcnkoeaa.P
