-- Printed by a program of this session (mp.py, over the kit's print). Not trusted: Lean checks it.
import Derived.Test.YtgeonpciodepgaaF0
namespace Go.Proofs.Ytgeonpciodepgaa.P
open Go.RowKit Go.Proofs.YtgeonpciodepgaaW.PrintWords Go.Proofs.YtgeonpciodepgaaW.PrintLast Go.Proofs.YtgeonpciodepgaaW.PrintMore
attribute [local go_sem] max2_int min2_int max_two min_two max_three min_three max_four min_four   -- for this text's walks alone
set_option linter.unusedVariables false
set_option linter.unusedSimpArgs false

theorem cack {p : Prop} (h : p := by first | rfl | (simp; done) | (simp [*]; done)) : p := h
/-! ### slices_Index_bool_bool: function 90 -/
def slices_Index_bool_bool.l0 : Nat → List Bool → Bool → Int → Int → Option (Int)
 | 0, _, _, _, _ => none
 | k + 1, x0, x1, x7, x8 => if x8 < x7 then (if 0 ≤ x8 then (if x8 < (x0.length : Int) then (if (x1 == (rdOf false x0 x8)) = true then (some x8) else (slices_Index_bool_bool.l0 k x0 x1 x7 (wrap64 (x8 + 1)))) else (none)) else (none)) else (some (-1))
def slices_Index_bool_bool.f (k : Nat) (l0 : List Bool) (a1 : Bool) : Option (Int) := slices_Index_bool_bool.l0 k l0 a1 (l0.length : Int) 0
theorem slices_Index_bool_bool.mono_l : ∀ k, (∀ y0 y1 y2 y3, LeO (slices_Index_bool_bool.l0 k y0 y1 y2 y3) (slices_Index_bool_bool.l0 (k + 1) y0 y1 y2 y3))
 | 0 => fun _ _ _ _ r h => by simp [slices_Index_bool_bool.l0] at h
 | k + 1 => by
  have af := slices_Index_bool_bool.mono_l k
  ·intro y0 y1 y2 y3; unfold slices_Index_bool_bool.l0
   repeat' first
   | (with_reducible exact af _ _ _ _)
   | (with_reducible exact LeO.refl _)
   | (with_reducible exact LeO.none _)
   | (with_reducible refine LeO.ite ?_ ?_)
   | (with_reducible refine LeO.bind ?_ (fun _ => ?_))
   | exact af _ _ _ _
   | exact LeO.none _
   | refine LeO.ite ?_ ?_
   | refine LeO.bind ?_ (fun _ => ?_)
theorem slices_Index_bool_bool.mono : ∀ a0 a1 k, LeO (slices_Index_bool_bool.f k a0 a1) (slices_Index_bool_bool.f (k + 1) a0 a1) := by
 intro a0 a1 k; have af := slices_Index_bool_bool.mono_l k; unfold slices_Index_bool_bool.f
 repeat' first | (with_reducible first | exact af _ _ _ _ | exact LeO.refl _ | exact LeO.none _ | refine LeO.ite ?_ ?_ | refine LeO.bind ?_ (fun _ => ?_)) | exact af _ _ _ _ | exact LeO.none _ | refine LeO.ite ?_ ?_ | refine LeO.bind ?_ (fun _ => ?_)
set_option maxHeartbeats 8000000 in
set_option maxRecDepth 100000 in
theorem slices_Index_bool_bool.calls (k : Nat) (A0 : Option Addr) (c0 : Nat) (l0 : List Bool) (a1 : Bool) (r : Int) (w : World) (ag : Kd.C Kd.bool w A0 l0.length l0) (ah : l0.length ≤ c0) (h : slices_Index_bool_bool.f k l0 a1 = some r) :
  Calls Try.prog 90 #[.slice A0 l0.length c0, .bool a1] w fun e w' => e = .returned (.int .i64 r) ∧ Drawn0 w w' := by
 have aj := G.m ag; have am := G.m ah; clear ag ah; have H : (slices_Index_bool_bool.l0 k l0 a1 (l0.length : Int) 0) = some r := h; clear h; have H' := G.m H; clear H
 go_enter Try.func90, Try.ntmps90
 go_wp2
 go_loopg [8] k (fun kq v8 w' => ∃ (aa : Int), v8 = .int .i64 aa ∧ Aside0 (slices_Index_bool_bool.l0 kq l0 a1 (l0.length : Int) aa = some r) ∧ Aside0 (kq ≤ k) ∧ Drawn0 w w')
 case atStart => exact ⟨(0), (cack), H', ⟨Nat.le_refl _⟩, by repeat (first | exact Drawn0.refl _ | apply Drawn0.step)⟩
 case round =>
  clear H'; try clear p2
  obtain ⟨aa, rfl, HA, ao, ⟨m1, rfl⟩⟩ := hrel; cases gk with
  | zero => exact absurd HA.out (by simp [slices_Index_bool_bool.l0])
  | succ k1 =>
   have H := HA.out; clear HA; simp only [slices_Index_bool_bool.l0] at H
   by_cases c3 : aa < (l0.length : Int)
   ·rw [if_pos c3] at H; have ap : decide (aa < (l0.length : Int)) = true := decide_eq_true c3; clear c3
    by_cases c4 : 0 ≤ aa
    ·rw [if_pos c4] at H; have aw : decide (0 ≤ aa) = true := decide_eq_true c4; clear c4
     by_cases c5 : aa < (l0.length : Int)
     ·rw [if_pos c5] at H; have ax : decide (aa < (l0.length : Int)) = true := decide_eq_true c5; clear c5
      by_cases c6 : (a1 == (rdOf false l0 aa)) = true
      ·rw [if_pos c6] at H; have aq : (a1 == (rdOf false l0 aa)) = true := c6; (try (have au : decide (a1 = (rdOf false l0 aa)) = true := by simpa using c6)); (try (have av : (a1 == (rdOf false l0 aa)) = true := by simpa using c6)); clear c6; obtain rfl := Option.some.inj H; have ab : 0 ≤ (aa : Int) := of_decide_eq_true (G.asm); have ac : aa < (l0.length : Int) := of_decide_eq_true (G.asm); obtain ⟨al, ai, ak⟩ := Kd.at_bool aj.out aa ab ac; cases ai; replace ab := eq_true ab; replace ac := eq_true ac
       go_wp2
       go_ret
       exact ⟨cack, by repeat (first | exact Drawn0.refl _ | apply Drawn0.step)⟩
      ·rw [if_neg c6] at H; have aq : (a1 == (rdOf false l0 aa)) = false := by simpa using c6
       (try (have au : decide (a1 = (rdOf false l0 aa)) = false := by simpa using c6)); (try (have av : (a1 == (rdOf false l0 aa)) = false := by simpa using c6)); (try (have ay : ¬ (a1 = (rdOf false l0 aa)) := by simpa using c6)); clear c6; have H' := G.m H; clear H; have ab : 0 ≤ (aa : Int) := of_decide_eq_true (G.asm); have ac : aa < (l0.length : Int) := of_decide_eq_true (G.asm); obtain ⟨al, ai, ak⟩ := Kd.at_bool aj.out aa ab ac; cases ai; replace ab := eq_true ab; replace ac := eq_true ac
       go_wp2
       go_roundg k1
       case measure => have := ao.out; omega
       case rel => exact ⟨(wrap64 (aa + 1)), (cack), H', ⟨by have := ao.out; omega⟩, by repeat (first | exact Drawn0.refl _ | apply Drawn0.step)⟩
     ·rw [if_neg c5] at H; exact absurd H (by simp)
    ·rw [if_neg c4] at H; exact absurd H (by simp)
   ·rw [if_neg c3] at H; have ap : decide (aa < (l0.length : Int)) = false := decide_eq_false c3; clear c3; obtain rfl := Option.some.inj H
    go_wp2
    go_ret
    exact ⟨cack, by repeat (first | exact Drawn0.refl _ | apply Drawn0.step)⟩

/-! ### slices_Contains_bool_bool: function 54 -/
def slices_Contains_bool_bool.f (k : Nat) (l0 : List Bool) (a1 : Bool) : Option (Bool) := (slices_Index_bool_bool.f k l0 a1).bind fun ae => (some (decide (ae ≥ 0)))
theorem slices_Contains_bool_bool.mono : ∀ a0 a1 k, LeO (slices_Contains_bool_bool.f k a0 a1) (slices_Contains_bool_bool.f (k + 1) a0 a1) := by
 intro a0 a1 k; unfold slices_Contains_bool_bool.f
 repeat' first | (with_reducible first | exact slices_Index_bool_bool.mono _ _ _ | exact LeO.refl _ | exact LeO.none _ | refine LeO.ite ?_ ?_ | refine LeO.bind ?_ (fun _ => ?_)) | exact slices_Index_bool_bool.mono _ _ _ | exact LeO.none _ | refine LeO.ite ?_ ?_ | refine LeO.bind ?_ (fun _ => ?_)
set_option maxHeartbeats 8000000 in
set_option maxRecDepth 100000 in
theorem slices_Contains_bool_bool.calls (k : Nat) (A0 : Option Addr) (c0 : Nat) (l0 : List Bool) (a1 : Bool) (r : Bool) (w : World) (ag : Kd.C Kd.bool w A0 l0.length l0) (ah : l0.length ≤ c0) (h : slices_Contains_bool_bool.f k l0 a1 = some r) :
  Calls Try.prog 54 #[.slice A0 l0.length c0, .bool a1] w fun e w' => e = .returned (.bool r) ∧ Drawn0 w w' := by
 have aj := G.m ag; have am := G.m ah; clear ag ah; have H : ((slices_Index_bool_bool.f k l0 a1).bind fun ae => (some (decide (ae ≥ 0)))) = some r := h; clear h; obtain ⟨ae, A3, H⟩ := G.bi H; replace H : (some (decide (ae ≥ 0))) = some r := H; obtain rfl := Option.some.inj H
 go_enter Try.func54, Try.ntmps54
 go_wp2_with (first | ((with_reducible refine G.f 90 rfl ?_); refine G.gL 7 Try.func90 #[.slice A0 l0.length c0, .bool a1] ?_; (with_reducible refine (slices_Index_bool_bool.calls k _ _ l0 a1 ae _ ?side1 ?side2 A3.out).mono ?_); (case side1 => exact G.cC aj.out); (case side2 => exact am.out); rintro e w' ⟨rfl, ⟨nd, rfl⟩⟩; refine ⟨_, rfl, ?_⟩))
 go_ret
 exact ⟨cack, by repeat (first | exact Drawn0.refl _ | apply Drawn0.step)⟩

end Go.Proofs.Ytgeonpciodepgaa.P
