-- Printed by a program of this session (mp.py, over the kit's print). Not trusted: Lean checks it.
import Derived.Test.YtgeonpciodepgaaF0
namespace Go.Proofs.Ytgeonpciodepgaa.P
open Go.RowKit Go.Proofs.YtgeonpciodepgaaW.PrintWords Go.Proofs.YtgeonpciodepgaaW.PrintLast Go.Proofs.YtgeonpciodepgaaW.PrintMore
attribute [local go_sem] max2_int min2_int max_two min_two max_three min_three max_four min_four   -- for this text's walks alone
set_option linter.unusedVariables false
set_option linter.unusedSimpArgs false

theorem cadb {p : Prop} (h : p := by first | rfl | (simp; done) | (simp [*]; done)) : p := h
/-! ### laws_szIntS: function 44 -/
def laws_szIntS.f (l0 : List Int) (a1 : Int) : Option (Int) := if (wrap64 (a1 - (l0.length : Int))) < 0 then (some (-1)) else (some (wrap64 (a1 - (l0.length : Int))))
set_option maxHeartbeats 8000000 in
set_option maxRecDepth 100000 in
theorem laws_szIntS.calls (A0 : Option Addr) (c0 : Nat) (l0 : List Int) (a1 : Int) (r : Int) (w : World) (al : Kd.C (Kd.int .i64) w A0 l0.length l0) (am : l0.length ≤ c0) (h : laws_szIntS.f l0 a1 = some r) :
  Calls Try.prog 44 #[.slice A0 l0.length c0, .int .i64 a1] w fun e w' => e = .returned (.int .i64 r) ∧ Drawn0 w w' := by
 have aF := G.m al; have bd := G.m am; clear al am; have H : (if (wrap64 (a1 - (l0.length : Int))) < 0 then (some (-1)) else (some (wrap64 (a1 - (l0.length : Int))))) = some r := h; clear h
 by_cases c3 : (wrap64 (a1 - (l0.length : Int))) < 0
 ·rw [if_pos c3] at H; have ao : decide ((wrap64 (a1 - (l0.length : Int))) < 0) = true := decide_eq_true c3; clear c3; obtain rfl := Option.some.inj H
  go_enter Try.func44, Try.ntmps44
  go_wp2
  go_ret
  exact ⟨cadb, by repeat (first | exact Drawn0.refl _ | apply Drawn0.step)⟩
 ·rw [if_neg c3] at H; have ao : decide ((wrap64 (a1 - (l0.length : Int))) < 0) = false := decide_eq_false c3; clear c3; obtain rfl := Option.some.inj H
  go_enter Try.func44, Try.ntmps44
  go_wp2
  go_ret
  exact ⟨cadb, by repeat (first | exact Drawn0.refl _ | apply Drawn0.step)⟩

/-! ### laws_szIntSS: function 15 -/
def laws_szIntSS.l0 : Nat → List (List Int) → Int → Int → Option (Int)
 | 0, _, _, _ => none
 | k + 1, x0, x1, x5 => if x5 < (x0.length : Int) then (if 0 ≤ x5 then ((laws_szIntS.f (rd_L2 x0 x5) x1).bind fun ag => (if ag < 0 then (some (-1)) else (laws_szIntSS.l0 k x0 ag (wrap64 (x5 + 1))))) else (none)) else (some x1)
def laws_szIntSS.f (k : Nat) (l0 : List (List Int)) (a1 : Int) : Option (Int) := if (wrap64 (a1 - (l0.length : Int))) < 0 then (some (-1)) else (laws_szIntSS.l0 k l0 (wrap64 (a1 - (l0.length : Int))) 0)
theorem laws_szIntSS.mono_l : ∀ k, (∀ y0 y1 y2, LeO (laws_szIntSS.l0 k y0 y1 y2) (laws_szIntSS.l0 (k + 1) y0 y1 y2))
 | 0 => fun _ _ _ r h => by simp [laws_szIntSS.l0] at h
 | k + 1 => by
  have af := laws_szIntSS.mono_l k
  ·intro y0 y1 y2; unfold laws_szIntSS.l0
   repeat' first
   | (with_reducible exact af _ _ _)
   | (with_reducible exact LeO.refl _)
   | (with_reducible exact LeO.none _)
   | (with_reducible refine LeO.ite ?_ ?_)
   | (with_reducible refine LeO.bind ?_ (fun _ => ?_))
   | exact af _ _ _
   | exact LeO.none _
   | refine LeO.ite ?_ ?_
   | refine LeO.bind ?_ (fun _ => ?_)
theorem laws_szIntSS.mono : ∀ a0 a1 k, LeO (laws_szIntSS.f k a0 a1) (laws_szIntSS.f (k + 1) a0 a1) := by
 intro a0 a1 k; have af := laws_szIntSS.mono_l k; unfold laws_szIntSS.f
 repeat' first | (with_reducible first | exact af _ _ _ | exact LeO.refl _ | exact LeO.none _ | refine LeO.ite ?_ ?_ | refine LeO.bind ?_ (fun _ => ?_)) | exact af _ _ _ | exact LeO.none _ | refine LeO.ite ?_ ?_ | refine LeO.bind ?_ (fun _ => ?_)
set_option maxHeartbeats 8000000 in
set_option maxRecDepth 100000 in
theorem laws_szIntSS.calls (k : Nat) (A0 : Option Addr) (c0 : Nat) (l0 : List (List Int)) (a1 : Int) (r : Int) (w : World) (al : Kd.C (Kd.slice 3 (Kd.int .i64)) w A0 l0.length l0) (am : l0.length ≤ c0) (h : laws_szIntSS.f k l0 a1 = some r) :
  Calls Try.prog 15 #[.slice A0 l0.length c0, .int .i64 a1] w fun e w' => e = .returned (.int .i64 r) ∧ Drawn0 w w' := by
 have aF := G.m al; have bd := G.m am; clear al am; have H : (if (wrap64 (a1 - (l0.length : Int))) < 0 then (some (-1)) else (laws_szIntSS.l0 k l0 (wrap64 (a1 - (l0.length : Int))) 0)) = some r := h; clear h
 by_cases c3 : (wrap64 (a1 - (l0.length : Int))) < 0
 ·rw [if_pos c3] at H; have ao : decide ((wrap64 (a1 - (l0.length : Int))) < 0) = true := decide_eq_true c3; clear c3; obtain rfl := Option.some.inj H
  go_enter Try.func15, Try.ntmps15
  go_wp2
  go_ret
  exact ⟨cadb, by repeat (first | exact Drawn0.refl _ | apply Drawn0.step)⟩
 ·rw [if_neg c3] at H; have ao : decide ((wrap64 (a1 - (l0.length : Int))) < 0) = false := decide_eq_false c3; clear c3; have H' := G.m H; clear H
  go_enter Try.func15, Try.ntmps15
  go_wp2
  go_loopg [1, 5] k (fun kq v1 v5 w' => ∃ (aq : Int) (ae : Int), v1 = .int .i64 aq ∧ v5 = .int .i64 ae ∧ Aside0 (laws_szIntSS.l0 kq l0 aq ae = some r) ∧ Aside0 (kq ≤ k) ∧ Drawn0 w w')
  case atStart => exact ⟨(wrap64 (a1 - (l0.length : Int))), (0), (cadb), (cadb), H', ⟨Nat.le_refl _⟩, by repeat (first | exact Drawn0.refl _ | apply Drawn0.step)⟩
  case round =>
   clear H'; (try clear ao); obtain ⟨aq, ae, rfl, rfl, HA, aD, ⟨m1, rfl⟩⟩ := hrel; cases gk with
   | zero => exact absurd HA.out (by simp [laws_szIntSS.l0])
   | succ k1 =>
    have H := HA.out; clear HA; simp only [laws_szIntSS.l0] at H
    by_cases c4 : ae < (l0.length : Int)
    ·rw [if_pos c4] at H; have bP : decide (ae < (l0.length : Int)) = true := decide_eq_true c4; clear c4
     by_cases c5 : 0 ≤ ae
     ·rw [if_pos c5] at H; have b_ : decide (0 ≤ ae) = true := decide_eq_true c5; clear c5; obtain ⟨ag, A6, H⟩ := G.bi H; replace H : (if ag < 0 then (some (-1)) else (laws_szIntSS.l0 k1 l0 ag (wrap64 (ae + 1)))) = some r := H
      by_cases c7 : ag < 0
      ·rw [if_pos c7] at H; have aP : decide (ag < 0) = true := decide_eq_true c7; clear c7; obtain rfl := Option.some.inj H; have au : 0 ≤ (ae : Int) := of_decide_eq_true (G.asm); have av : ae < (l0.length : Int) := of_decide_eq_true (G.asm); obtain ⟨bF, aG, aH, aQ, a_, aj, ak⟩ := at_L2 aF.out ae au av; cases aQ; have aA := G.m ak; have aB := G.m aj; clear ak aj; replace au := eq_true au; replace av := eq_true av
       go_wp2_with (first | ((with_reducible refine G.f 44 rfl ?_); refine G.gL 23 Try.func44 #[.slice aG (rd_L2 l0 ae).length aH, .int .i64 aq] ?_; (with_reducible refine (laws_szIntS.calls _ _ (rd_L2 l0 ae) aq ag _ ?side1 ?side2 A6.out).mono ?_); (case side1 => exact G.cC aA.out); (case side2 => exact aB.out); rintro e w' ⟨rfl, ⟨nd, rfl⟩⟩; refine ⟨_, rfl, ?_⟩))
       go_ret
       exact ⟨cadb, by repeat (first | exact Drawn0.refl _ | apply Drawn0.step)⟩
      ·rw [if_neg c7] at H; have aP : decide (ag < 0) = false := decide_eq_false c7; clear c7; have H' := G.m H; clear H; have au : 0 ≤ (ae : Int) := of_decide_eq_true (G.asm); have av : ae < (l0.length : Int) := of_decide_eq_true (G.asm); obtain ⟨bF, aG, aH, aQ, a_, aj, ak⟩ := at_L2 aF.out ae au av; cases aQ; have aA := G.m ak; have aB := G.m aj; clear ak aj; replace au := eq_true au; replace av := eq_true av
       go_wp2_with (first | ((with_reducible refine G.f 44 rfl ?_); refine G.gL 23 Try.func44 #[.slice aG (rd_L2 l0 ae).length aH, .int .i64 aq] ?_; (with_reducible refine (laws_szIntS.calls _ _ (rd_L2 l0 ae) aq ag _ ?side1 ?side2 A6.out).mono ?_); (case side1 => exact G.cC aA.out); (case side2 => exact aB.out); rintro e w' ⟨rfl, ⟨nd, rfl⟩⟩; refine ⟨_, rfl, ?_⟩))
       go_roundg k1
       case measure => have := aD.out; omega
       case rel => exact ⟨(ag), (wrap64 (ae + 1)), (cadb), (cadb), H', ⟨by have := aD.out; omega⟩, by repeat (first | exact Drawn0.refl _ | apply Drawn0.step)⟩
     ·rw [if_neg c5] at H; exact absurd H (by simp)
    ·rw [if_neg c4] at H; have bP : decide (ae < (l0.length : Int)) = false := decide_eq_false c4; clear c4; obtain rfl := Option.some.inj H
     go_wp2
     go_ret
     exact ⟨cadb, by repeat (first | exact Drawn0.refl _ | apply Drawn0.step)⟩

/-! ### laws_toIntS: function 49 -/
def laws_toIntS.l0 : Nat → List Int → List Int → Int → Option (List Int)
 | 0, _, _, _ => none
 | k + 1, x0, x3, x4 => if x4 < (x0.length : Int) then (if 0 ≤ x4 then (if x4 < (x3.length : Int) then (laws_toIntS.l0 k x0 (x3.set (x4 : Int).toNat (rd x0 x4)) (wrap64 (x4 + 1))) else (none)) else (none)) else (some x3)
def laws_toIntS.f (k : Nat) (l0 : List Int) : Option (List Int) := if 0 ≤ (l0.length : Int) then (if ((l0.length : Int) : Int).toNat ≤ 35184372088832 then (laws_toIntS.l0 k l0 (List.replicate ((l0.length : Int) : Int).toNat 0) 0) else (none)) else (none)
theorem laws_toIntS.mono_l : ∀ k, (∀ y0 y1 y2, LeO (laws_toIntS.l0 k y0 y1 y2) (laws_toIntS.l0 (k + 1) y0 y1 y2))
 | 0 => fun _ _ _ r h => by simp [laws_toIntS.l0] at h
 | k + 1 => by
  have af := laws_toIntS.mono_l k
  ·intro y0 y1 y2; unfold laws_toIntS.l0
   repeat' first
   | (with_reducible exact af _ _ _)
   | (with_reducible exact LeO.refl _)
   | (with_reducible exact LeO.none _)
   | (with_reducible refine LeO.ite ?_ ?_)
   | (with_reducible refine LeO.bind ?_ (fun _ => ?_))
   | exact af _ _ _
   | exact LeO.none _
   | refine LeO.ite ?_ ?_
   | refine LeO.bind ?_ (fun _ => ?_)
theorem laws_toIntS.mono : ∀ a0 k, LeO (laws_toIntS.f k a0) (laws_toIntS.f (k + 1) a0) := by
 intro a0 k; have af := laws_toIntS.mono_l k; unfold laws_toIntS.f
 repeat' first | (with_reducible first | exact af _ _ _ | exact LeO.refl _ | exact LeO.none _ | refine LeO.ite ?_ ?_ | refine LeO.bind ?_ (fun _ => ?_)) | exact af _ _ _ | exact LeO.none _ | refine LeO.ite ?_ ?_ | refine LeO.bind ?_ (fun _ => ?_)
set_option maxHeartbeats 8000000 in
set_option maxRecDepth 100000 in
theorem laws_toIntS.calls (k : Nat) (A0 : Option Addr) (c0 : Nat) (l0 : List Int) (r : List Int) (w : World) (al : Kd.C (Kd.int .i64) w A0 l0.length l0) (am : l0.length ≤ c0) (h : laws_toIntS.f k l0 = some r) :
  Calls Try.prog 49 #[.slice A0 l0.length c0] w fun e w' => ∃ aO : Value, e = .returned (aO) ∧ Kd.R (Kd.int .i64) 3 w' w.heap.size (fun _ => True) aO r ∧ Below w.heap.size w w' := by
 have aF := G.m al; have bd := G.m am; clear al am; have HB := G.m (Below.refl w.heap.size w); have H : (if 0 ≤ (l0.length : Int) then (if ((l0.length : Int) : Int).toNat ≤ 35184372088832 then (laws_toIntS.l0 k l0 (List.replicate ((l0.length : Int) : Int).toNat 0) 0) else (none)) else (none)) = some r := h; clear h
 by_cases c2 : 0 ≤ (l0.length : Int)
 ·rw [if_pos c2] at H; have aR := eq_true c2; have aS : decide (0 ≤ (l0.length : Int)) = true := decide_eq_true c2; clear c2
  by_cases c3 : ((l0.length : Int) : Int).toNat ≤ 35184372088832
  ·rw [if_pos c3] at H; have ao := eq_true c3; have aT : decide (((l0.length : Int) : Int).toNat ≤ 35184372088832) = true := decide_eq_true c3; clear c3; obtain ⟨bf, aw⟩ : ∃ y_ : List Int, y_ = (List.replicate ((l0.length : Int) : Int).toNat 0) := ⟨_, rfl⟩; replace H : (laws_toIntS.l0 k l0 bf 0) = some r := by first | (rw [aw]; with_reducible exact H) | (have ah := (Option.bind_some _ _).symm.trans H; rw [aw]; with_reducible exact ah) | (have ah := (Option.bind_some _ _).symm.trans H; with_reducible exact ah) | with_reducible exact H | (rw [aw]; exact H) | exact H
   have a4 := G.m aw; clear aw; have H' := G.m H; clear H
   go_enter Try.func49, Try.ntmps49
   go_wp2_with (first | ((with_reducible refine G.h 7 rfl ?_); refine Kd.R_make (Kd.int .i64) _ 3 rfl (N := 7) rfl 45 _ _ rfl (l0.length : Int) rfl rfl Try.underlying45 (.int .i64 0) 8 info3 rfl (by decide) (by omega) 0 (ok := fun _ => True) (okp := fun _ => True) rfl (fun _ hk => hk) trivial (of_decide_eq_true (G.asm)) (Nat.le_trans (Nat.mul_le_mul_right _ (of_decide_eq_true (G.asm) : (l0.length : Int).toNat ≤ 35184372088832)) (by omega)) (Below.refl _ _) (Nat.le_refl _) ?_; intro bQ w4 ap hb hg_ hnew_; clear hg_ hnew_; (first | rw [← a4.out] at ap | (simp only [Int.reduceToNat] at ap; rw [← a4.out] at ap)); have n0 := G.m (Kd.R_lower ap (below_size (G.cB HB.out))); have n1 := G.bs HB hb; clear HB; revert n0 n1; intro bG HB; clear hb ap))
   go_loopg [4] k (fun kq v4 w' => ∃ (ac : List Int) (aa : Int), v4 = .int .i64 aa ∧ Aside0 (laws_toIntS.l0 kq l0 ac aa = some r) ∧ Aside0 (kq ≤ k) ∧ Aside0 (Kd.R (Kd.int .i64) 3 w' w.heap.size (fun _ => True) bQ ac) ∧ Aside0 (Below w.heap.size w w'))
   case atStart => exact ⟨(bf), (0), (cadb), H', ⟨Nat.le_refl _⟩, ⟨G.cR bG.out⟩, ⟨G.cB HB.out⟩⟩
   case round =>
    clear H'; (try clear aR aS ao aT); obtain ⟨ac, aa, rfl, HA, aD, ab, HB⟩ := hrel; cases gk with
    | zero => exact absurd HA.out (by simp [laws_toIntS.l0])
    | succ k1 =>
     have H := HA.out; clear HA; simp only [laws_toIntS.l0] at H
     by_cases c6 : aa < (l0.length : Int)
     ·rw [if_pos c6] at H; have aU : decide (aa < (l0.length : Int)) = true := decide_eq_true c6; clear c6
      by_cases c7 : 0 ≤ aa
      ·rw [if_pos c7] at H; have aP : decide (0 ≤ aa) = true := decide_eq_true c7; clear c7
       by_cases c8 : aa < (ac.length : Int)
       ·rw [if_pos c8] at H; have ca : decide (aa < (ac.length : Int)) = true := decide_eq_true c8; clear c8; obtain ⟨aV, ax⟩ : ∃ y_ : List Int, y_ = (ac.set (aa : Int).toNat (rd l0 aa)) := ⟨_, rfl⟩; replace H : (laws_toIntS.l0 k1 l0 aV (wrap64 (aa + 1))) = some r := by first | (rw [ax]; with_reducible exact H) | (have ah := (Option.bind_some _ _).symm.trans H; rw [ax]; with_reducible exact ah) | (have ah := (Option.bind_some _ _).symm.trans H; with_reducible exact ah) | with_reducible exact H | (rw [ax]; exact H) | exact H
        have bH := G.m ax; clear ax; have H' := G.m H; clear H; have aW : 0 ≤ (aa : Int) := of_decide_eq_true (G.asm); have aX : aa < (l0.length : Int) := of_decide_eq_true (G.asm); obtain ⟨b5, bR, aJ⟩ := Kd.at_int aF.out aa aW aX; cases bR; replace aJ := G.hx HB aJ; replace aW := eq_true aW; replace aX := eq_true aX; have p9 : 0 ≤ (aa : Int) := of_decide_eq_true (G.asm); have q9 : (aa : Int) < ((ac.length : Int) : Int) := of_decide_eq_true (G.asm); obtain ⟨bh, bX, bM, bN, bY, cj, bO⟩ := Kd.R_form ab.out (by omega); (first | cases bM | (injection bM with ea_ en_ ec_; (first | subst ea_ | (injection ea_ with ea_; subst ea_)); subst ec_; clear en_)); have bZ := G.m bN; have ck := G.m bO; clear bN bY bO; obtain ⟨b6, b7⟩ := Kd.R_celln 0 ab.out (aa : Int) p9 q9; replace p9 := eq_true p9; replace q9 := eq_true q9; have aY := Kd.R_putg ab.out (aa : Int) (rd l0 aa)
        go_wp2_with (first | ((with_reducible refine gate_store (t := 3) (p := 20) rfl ?_); refine store_event (t := 3) (p := 20) (v := ?vo_w11) (w1 := (wr.setCell ⟨bh, (aa : Int).toNat, none⟩ (.int .i64 (rd l0 aa)))) ?hg ?ho ?hn ?hr ?_; (case ho => rfl); (case hg => rfl); (case hn => rfl); (case hr => first | (go_simp; done) | (go_simp; rfl)); intro aI hw; have hg : wr.grownBy aI (some bh) := (by rw [hw]; exact aY.2); have hp_ : Kd.R (Kd.int .i64) 3 aI w.heap.size (fun _ => True) (.slice (some ⟨bh, 0, none⟩) ac.length bX) aV := (by rw [hw, bH.out]; exact aY.1); clear aY; have n0 := G.m (hp_); have n1 := G.m ((by rw [hw]; exact below_set (HB.out) bZ.out : Below w.heap.size w aI)); clear ab HB; revert n0 n1; intro ab HB; clear hg hw hp_))
        go_roundg k1
        case measure => have := aD.out; omega
        case rel => exact ⟨(aV), (wrap64 (aa + 1)), (cadb), H', ⟨by have := aD.out; omega⟩, ⟨G.cR ab.out⟩, ⟨G.cB HB.out⟩⟩
       ·rw [if_neg c8] at H; exact absurd H (by simp)
      ·rw [if_neg c7] at H; exact absurd H (by simp)
     ·rw [if_neg c6] at H; have aU : decide (aa < (l0.length : Int)) = false := decide_eq_false c6; clear c6; obtain rfl := Option.some.inj H
      go_wp2
      go_ret
      exact ⟨_, by first | rfl | (simp [errW_none, errW_some] <;> rfl) | (simp [*, errW_none, errW_some] <;> rfl), G.cR ab.out, G.cB HB.out⟩
  ·rw [if_neg c3] at H; exact absurd H (by simp)
 ·rw [if_neg c2] at H; exact absurd H (by simp)

/-! ### laws_toIntSS: function 18 -/
def laws_toIntSS.l0 : Nat → List (List Int) → List (List Int) → Int → Option ((List (List Int)))
 | 0, _, _, _ => none
 | k + 1, x0, x3, x4 => if x4 < (x0.length : Int) then (if 0 ≤ x4 then ((laws_toIntS.f k (rd_L2 x0 x4)).bind fun ai => (if x4 < (x3.length : Int) then (laws_toIntSS.l0 k x0 (x3.set (x4 : Int).toNat ai) (wrap64 (x4 + 1))) else (none))) else (none)) else (some x3)
def laws_toIntSS.f (k : Nat) (l0 : List (List Int)) : Option ((List (List Int))) := if 0 ≤ (l0.length : Int) then (if ((l0.length : Int) : Int).toNat ≤ 11728124029610 then (laws_toIntSS.l0 k l0 (List.replicate ((l0.length : Int) : Int).toNat []) 0) else (none)) else (none)
theorem laws_toIntSS.mono_l : ∀ k, (∀ y0 y1 y2, LeO (laws_toIntSS.l0 k y0 y1 y2) (laws_toIntSS.l0 (k + 1) y0 y1 y2))
 | 0 => fun _ _ _ r h => by simp [laws_toIntSS.l0] at h
 | k + 1 => by
  have af := laws_toIntSS.mono_l k
  ·intro y0 y1 y2; unfold laws_toIntSS.l0
   repeat' first
   | (with_reducible exact af _ _ _)
   | (with_reducible exact laws_toIntS.mono _ _)
   | (with_reducible exact LeO.refl _)
   | (with_reducible exact LeO.none _)
   | (with_reducible refine LeO.ite ?_ ?_)
   | (with_reducible refine LeO.bind ?_ (fun _ => ?_))
   | exact af _ _ _
   | exact laws_toIntS.mono _ _
   | exact LeO.none _
   | refine LeO.ite ?_ ?_
   | refine LeO.bind ?_ (fun _ => ?_)
theorem laws_toIntSS.mono : ∀ a0 k, LeO (laws_toIntSS.f k a0) (laws_toIntSS.f (k + 1) a0) := by
 intro a0 k; have af := laws_toIntSS.mono_l k; unfold laws_toIntSS.f
 repeat' first | (with_reducible first | exact af _ _ _ | exact laws_toIntS.mono _ _ | exact LeO.refl _ | exact LeO.none _ | refine LeO.ite ?_ ?_ | refine LeO.bind ?_ (fun _ => ?_)) | exact af _ _ _ | exact laws_toIntS.mono _ _ | exact LeO.none _ | refine LeO.ite ?_ ?_ | refine LeO.bind ?_ (fun _ => ?_)
set_option maxHeartbeats 8000000 in
set_option maxRecDepth 100000 in
theorem laws_toIntSS.calls (k : Nat) (A0 : Option Addr) (c0 : Nat) (l0 : List (List Int)) (r : List (List Int)) (w : World) (al : Kd.C (Kd.slice 3 (Kd.int .i64)) w A0 l0.length l0) (am : l0.length ≤ c0) (h : laws_toIntSS.f k l0 = some r) :
  Calls Try.prog 18 #[.slice A0 l0.length c0] w fun e w' => ∃ aO : Value, e = .returned (aO) ∧ Kd.S (Kd.slice 3 (Kd.int .i64)) 45 w' w.heap.size (fun _ => True) aO r ∧ Below w.heap.size w w' := by
 have aF := G.m al; have bd := G.m am; clear al am; have HB := G.m (Below.refl w.heap.size w); have H : (if 0 ≤ (l0.length : Int) then (if ((l0.length : Int) : Int).toNat ≤ 11728124029610 then (laws_toIntSS.l0 k l0 (List.replicate ((l0.length : Int) : Int).toNat []) 0) else (none)) else (none)) = some r := h; clear h
 by_cases c2 : 0 ≤ (l0.length : Int)
 ·rw [if_pos c2] at H; have aR := eq_true c2; have aS : decide (0 ≤ (l0.length : Int)) = true := decide_eq_true c2; clear c2
  by_cases c3 : ((l0.length : Int) : Int).toNat ≤ 11728124029610
  ·rw [if_pos c3] at H; have ao := eq_true c3; have aT : decide (((l0.length : Int) : Int).toNat ≤ 11728124029610) = true := decide_eq_true c3; clear c3; obtain ⟨bj, ay⟩ : ∃ y_ : List (List Int), y_ = (List.replicate ((l0.length : Int) : Int).toNat []) := ⟨_, rfl⟩; replace H : (laws_toIntSS.l0 k l0 bj 0) = some r := by first | (rw [ay]; with_reducible exact H) | (have ah := (Option.bind_some _ _).symm.trans H; rw [ay]; with_reducible exact ah) | (have ah := (Option.bind_some _ _).symm.trans H; with_reducible exact ah) | with_reducible exact H | (rw [ay]; exact H) | exact H
   have a5 := G.m ay; clear ay; have H' := G.m H; clear H
   go_enter Try.func18, Try.ntmps18
   go_wp2_with (first | ((with_reducible refine G.h 7 rfl ?_); refine Kd.S_make (Kd.slice 3 (Kd.int .i64)) _ 45 rfl (N := 7) rfl 25 _ _ rfl (l0.length : Int) rfl rfl Try.underlying25 (.slice none 0 0) 24 info45 rfl (by decide) (by omega) [] (ok := fun _ => True) (okp := fun _ => True) ⟨_, rfl, Kd.R_nil _ _ _ _ _⟩ (fun _ hk => hk) trivial (of_decide_eq_true (G.asm)) (Nat.le_trans (Nat.mul_le_mul_right _ (of_decide_eq_true (G.asm) : (l0.length : Int).toNat ≤ 11728124029610)) (by omega)) (Below.refl _ _) (Nat.le_refl _) ?_; intro bS w4 ap hb hg_ hnew_; clear hg_ hnew_; (first | rw [← a5.out] at ap | (simp only [Int.reduceToNat] at ap; rw [← a5.out] at ap)); have n0 := G.m (Kd.S_lower ap (below_size (G.cB HB.out))); have n1 := G.bs HB hb; clear HB; revert n0 n1; intro bI HB; clear hb ap))
   go_loopg [4] k (fun kq v4 w' => ∃ (ac : List (List Int)) (aa : Int), v4 = .int .i64 aa ∧ Aside0 (laws_toIntSS.l0 kq l0 ac aa = some r) ∧ Aside0 (kq ≤ k) ∧ Aside0 (Kd.S (Kd.slice 3 (Kd.int .i64)) 45 w' w.heap.size (fun _ => True) bS ac) ∧ Aside0 (Below w.heap.size w w'))
   case atStart => exact ⟨(bj), (0), (cadb), H', ⟨Nat.le_refl _⟩, ⟨by (with_reducible repeat (first | apply Kd.S_alloc | apply Kd.S_drewN | apply Kd.S_drew)); exact bI.out⟩, ⟨G.cB HB.out⟩⟩
   case round =>
    clear H'; (try clear aR aS ao aT); obtain ⟨ac, aa, rfl, HA, aD, ab, HB⟩ := hrel; cases gk with
    | zero => exact absurd HA.out (by simp [laws_toIntSS.l0])
    | succ k1 =>
     have H := HA.out; clear HA; simp only [laws_toIntSS.l0] at H
     by_cases c6 : aa < (l0.length : Int)
     ·rw [if_pos c6] at H; have aU : decide (aa < (l0.length : Int)) = true := decide_eq_true c6; clear c6
      by_cases c7 : 0 ≤ aa
      ·rw [if_pos c7] at H; have aP : decide (0 ≤ aa) = true := decide_eq_true c7; clear c7; obtain ⟨ai, A8, H⟩ := G.bi H; replace H : (if aa < (ac.length : Int) then (laws_toIntSS.l0 k1 l0 (ac.set (aa : Int).toNat ai) (wrap64 (aa + 1))) else (none)) = some r := H
       by_cases c9 : aa < (ac.length : Int)
       ·rw [if_pos c9] at H; have cd : decide (aa < (ac.length : Int)) = true := decide_eq_true c9; clear c9; obtain ⟨aZ, az⟩ : ∃ y_ : List (List Int), y_ = (ac.set (aa : Int).toNat ai) := ⟨_, rfl⟩; replace H : (laws_toIntSS.l0 k1 l0 aZ (wrap64 (aa + 1))) = some r := by first | (rw [az]; with_reducible exact H) | (have ah := (Option.bind_some _ _).symm.trans H; rw [az]; with_reducible exact ah) | (have ah := (Option.bind_some _ _).symm.trans H; with_reducible exact ah) | with_reducible exact H | (rw [az]; exact H) | exact H
        have bJ := G.m az; clear az; have H' := G.m H; clear H; have a2 : 0 ≤ (aa : Int) := of_decide_eq_true (G.asm); have a3 : aa < (l0.length : Int) := of_decide_eq_true (G.asm); obtain ⟨b8, bk, bl, bT, aK, aL, aM⟩ := at_L2 aF.out aa a2 a3; cases bT; replace aK := G.hx HB aK; have ba := G.m aM; have bc := G.m aL; clear aM aL; replace a2 := eq_true a2; replace a3 := eq_true a3
        go_wp2_with (first | ((with_reducible refine G.f 49 rfl ?_); refine G.gL 20 Try.func49 #[.slice bk (rd_L2 l0 aa).length bl] ?_; (with_reducible refine (laws_toIntS.calls k1 _ _ (rd_L2 l0 aa) ai _ ?side1 ?side2 A8.out).mono ?_); (case side1 => exact G.cC (Kd.C_below ba.out HB.out)); (case side2 => exact bc.out); rintro e aI ⟨ce, rfl, bm, hb⟩; refine ⟨_, rfl, ?_⟩; have n0 := G.m (Kd.S_elder' (by (with_reducible repeat (first | apply Kd.S_alloc | apply Kd.S_drewN | apply Kd.S_drew)); exact ab.out) (Kd.R_base bm) hb); have n1 := G.m (Kd.R_lower bm (below_size (G.cB HB.out))); have n2 := G.bs HB hb; clear ab HB; revert n0 n1 n2; intro ab aE HB; (try clear hb bm); obtain ⟨Ar_, cr_, er_⟩ := Kd.R_slice aE.out; subst er_; have bn : 0 ≤ (aa : Int) := of_decide_eq_true (G.asm); have bo : (aa : Int) < ((ac.length : Int) : Int) := of_decide_eq_true (G.asm); obtain ⟨aC, bp, bq, br, bU, cf, bu⟩ := Kd.S_form ab.out (by omega); (first | cases bq | (injection bq with ea_ en_ ec_; (first | subst ea_ | (injection ea_ with ea_; subst ea_)); subst ec_; clear en_)); have bV := G.m br; have cg := G.m bu; clear br bU bu; obtain ⟨_, ch, bK, bv, a6, a7, _, _⟩ := Kd.S_elem ab.out [] (aa : Int) bn bo; obtain ⟨b1, rfl, b2⟩ := bv; have bw := a6 0 _ rfl; have bx := a7 0; (try simp only [show ((Kd.slice 3 (Kd.int .i64))).sz = 1 from rfl, Nat.mul_one, Nat.add_zero] at bw); (try simp only [show ((Kd.slice 3 (Kd.int .i64))).sz = 1 from rfl, Nat.mul_one, Nat.add_zero] at bx); clear bK a6 a7; (try clear bv); replace bn := eq_true bn; replace bo := eq_true bo; have n_ := G.m (Kd.S_mono (ok' := (fun k_ => some k_ ≠ (.slice Ar_ ai.length cr_ : Value).ownBlock)) ab.out (fun k_ hk => hk.2)); clear ab; have ab := n_; clear n_; have bW := G.m (show Kd.S (Kd.slice 3 (Kd.int .i64)) 45 aI w.heap.size (fun k_ => ((fun _ => True)) k_ ∧ ¬ ((fun k_ => some k_ = (.slice Ar_ ai.length cr_ : Value).ownBlock)) k_) (.slice (some ⟨aC, 0, none⟩) ac.length bp) ac from (by (with_reducible repeat (first | apply Kd.S_alloc | apply Kd.S_drewN | apply Kd.S_drew)); exact Kd.S_mono ab.out (fun k_ hk => ⟨trivial, fun e_ => hk e_⟩))); obtain ⟨b9, ci, bL, bz, a8, a9, bA, bB⟩ := Kd.S_elem bW.out [] (aa : Int) (of_decide_eq_true (G.asm)) (by have h_ : (aa : Int) < ((ac.length : Int) : Int) := of_decide_eq_true (G.asm); first | exact h_ | (have e_ := (Kd.S_reads' ab.out).1; omega) | simpa using h_); obtain ⟨b3, rfl, b4⟩ := bz; have aN := Kd.S_seg bB (of_decide_eq_true (G.asm)) (by have h_ : (aa : Int) < ((ac.length : Int) : Int) := of_decide_eq_true (G.asm); first | exact h_ | (have e_ := (Kd.S_reads' ab.out).1; omega) | simpa using h_) (seg := [.slice Ar_ ai.length cr_]) (j := 0) (show 1 ≤ 1 from by decide) (x' := ai) (Kd.M_row (Kd.R_mono (Kd.R_tight rfl (Kd.R_mono (ok' := fun k_ => ((fun _ => True)) k_ ∧ k_ ≠ aC) (Kd.R_apart' (aE.out) (Kd.S_typed ab.out) (by decide)) (fun k_ hk => ⟨trivial, fun e_ => (hk.2) (by rw [e_]; rfl)⟩))) (fun _ h_ => Or.inr (h_)))) (fun _ hk => hk) (fun k_ hk_ => ((Kd.R_mono (ok' := fun k_ => ((fun _ => True)) k_ ∧ k_ ≠ aC) (Kd.R_apart' (aE.out) (Kd.S_typed ab.out) (by decide)) (fun k_ hk => ⟨trivial, fun e_ => (hk.2) (by rw [e_]; rfl)⟩))).1 k_ hk_.symm); have bC := a8 0 _ rfl; (try simp only [show ((Kd.slice 3 (Kd.int .i64))).sz = 1 from rfl, Nat.mul_one, Nat.add_zero] at bC); have bD := a9 0; (try simp only [show ((Kd.slice 3 (Kd.int .i64))).sz = 1 from rfl, Nat.mul_one, Nat.add_zero] at bD); clear bL a8 a9 bA bB; (try clear bz); (try simp only [show ((Kd.slice 3 (Kd.int .i64))).sz = 1 from rfl, Nat.mul_one, Nat.add_zero] at aN)) | ((with_reducible refine gate_store (t := 45) (p := 21) rfl ?_); refine store_event (t := 45) (p := 21) (v := ?vo_w13) (w1 := (aI.setCell ⟨aC, (aa : Int).toNat, none⟩ (.slice Ar_ ai.length cr_))) ?hg ?ho ?hn ?hr ?_; (case ho => rfl); (case hg => rfl); (case hn => rfl); (case hr => first | (go_simp; done) | (go_simp; rfl)); intro bE hw; have hg : aI.grownBy bE (some aC) := (by rw [hw]; exact aN.2); have hp_ : Kd.S (Kd.slice 3 (Kd.int .i64)) 45 bE w.heap.size (fun _ => True) (.slice (some ⟨aC, 0, none⟩) ac.length bp) aZ := (by rw [hw, bJ.out]; exact aN.1); clear aN; have n0 := G.m (hp_); have n1 := G.m ((by rw [hw]; exact below_set (HB.out) bV.out : Below w.heap.size w bE)); clear ab HB aE; revert n0 n1; intro ab HB; clear hg hw hp_))
        go_roundg k1
        case measure => have := aD.out; omega
        case rel => exact ⟨(aZ), (wrap64 (aa + 1)), (cadb), H', ⟨by have := aD.out; omega⟩, ⟨by (with_reducible repeat (first | apply Kd.S_alloc | apply Kd.S_drewN | apply Kd.S_drew)); exact ab.out⟩, ⟨G.cB HB.out⟩⟩
       ·rw [if_neg c9] at H; exact absurd H (by simp)
      ·rw [if_neg c7] at H; exact absurd H (by simp)
     ·rw [if_neg c6] at H; have aU : decide (aa < (l0.length : Int)) = false := decide_eq_false c6; clear c6; obtain rfl := Option.some.inj H
      go_wp2
      go_ret
      exact ⟨_, by first | rfl | (simp [errW_none, errW_some] <;> rfl) | (simp [*, errW_none, errW_some] <;> rfl), by (with_reducible repeat (first | apply Kd.S_alloc | apply Kd.S_drewN | apply Kd.S_drew)); exact ab.out, G.cB HB.out⟩
  ·rw [if_neg c3] at H; exact absurd H (by simp)
 ·rw [if_neg c2] at H; exact absurd H (by simp)

end Go.Proofs.Ytgeonpciodepgaa.P
