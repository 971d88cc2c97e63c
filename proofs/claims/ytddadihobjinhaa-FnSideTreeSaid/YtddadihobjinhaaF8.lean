-- Printed by a program of this session (mp.py, over the kit's print). Not trusted: Lean checks it.
import Derived.Test.YtddadihobjinhaaF0
import Derived.Test.YtddadihobjinhaaF3
namespace Go.Proofs.Ytddadihobjinhaa.P
open Go.RowKit Go.Proofs.YtddadihobjinhaaW.PrintWords Go.Proofs.YtddadihobjinhaaW.PrintLast Go.Proofs.YtddadihobjinhaaW.PrintMore
attribute [local go_sem] max2_int min2_int max_two min_two max_three min_three max_four min_four   -- for this text's walks alone
set_option linter.unusedVariables false
set_option linter.unusedSimpArgs false

theorem caaV {p : Prop} (h : p := by first | rfl | (simp; done) | (simp [*]; done)) : p := h
/-! ### slices_Compare_int_int: function 91 -/
def slices_Compare_int_int.l0 : Nat → List Int → List Int → List Int → Int → Int → Option (Int)
 | 0, _, _, _, _, _ => none
 | k + 1, x0, x1, x9, aJ, al => if al < aJ then (if 0 ≤ al then (if al < (x9.length : Int) then (if al ≥ (x1.length : Int) then (some 1) else (if al < (x1.length : Int) then ((cmp_Compare_int.f (rd x9 al) (rd x1 al)).bind fun ac => (if ac = 0 then (slices_Compare_int_int.l0 k x0 x1 x9 aJ (wrap64 (al + 1))) else (some ac))) else (none))) else (none)) else (none)) else (if (x0.length : Int) < (x1.length : Int) then (some (-1)) else (some 0))
def slices_Compare_int_int.f (k : Nat) (l0 : List Int) (l1 : List Int) : Option (Int) := slices_Compare_int_int.l0 k l0 l1 l0 (l0.length : Int) 0
theorem slices_Compare_int_int.mono_l : ∀ k, (∀ y0 y1 y2 y3 y4, LeO (slices_Compare_int_int.l0 k y0 y1 y2 y3 y4) (slices_Compare_int_int.l0 (k + 1) y0 y1 y2 y3 y4))
 | 0 => fun _ _ _ _ _ r h => by simp [slices_Compare_int_int.l0] at h
 | k + 1 => by
  have aq := slices_Compare_int_int.mono_l k
  ·intro y0 y1 y2 y3 y4; unfold slices_Compare_int_int.l0
   repeat' first
   | (with_reducible exact aq _ _ _ _ _)
   | (with_reducible exact LeO.refl _)
   | (with_reducible exact LeO.none _)
   | (with_reducible refine LeO.ite ?_ ?_)
   | (with_reducible refine LeO.bind ?_ (fun _ => ?_))
   | exact aq _ _ _ _ _
   | exact LeO.none _
   | refine LeO.ite ?_ ?_
   | refine LeO.bind ?_ (fun _ => ?_)
theorem slices_Compare_int_int.mono : ∀ a0 a1 k, LeO (slices_Compare_int_int.f k a0 a1) (slices_Compare_int_int.f (k + 1) a0 a1) := by
 intro a0 a1 k; have aq := slices_Compare_int_int.mono_l k; unfold slices_Compare_int_int.f
 repeat' first | (with_reducible first | exact aq _ _ _ _ _ | exact LeO.refl _ | exact LeO.none _ | refine LeO.ite ?_ ?_ | refine LeO.bind ?_ (fun _ => ?_)) | exact aq _ _ _ _ _ | exact LeO.none _ | refine LeO.ite ?_ ?_ | refine LeO.bind ?_ (fun _ => ?_)
set_option maxHeartbeats 8000000 in
set_option maxRecDepth 100000 in
theorem slices_Compare_int_int.calls (k : Nat) (A0 : Option Addr) (c0 : Nat) (l0 : List Int) (A1 : Option Addr) (c1 : Nat) (l1 : List Int) (r : Int) (w : World) (au : Kd.C (Kd.int .i64) w A0 l0.length l0) (av : l0.length ≤ c0) (hr1 : Kd.C (Kd.int .i64) w A1 l1.length l1) (aw : l1.length ≤ c1) (h : slices_Compare_int_int.f k l0 l1 = some r) :
  Calls Try.prog 91 #[.slice A0 l0.length c0, .slice A1 l1.length c1] w fun e w' => e = .returned (.int .i64 r) ∧ Drawn0 w w' := by
 have ax := G.m au; have aK := G.m av; clear au av; have aB := G.m hr1; have aL := G.m aw; clear hr1 aw; have H : (slices_Compare_int_int.l0 k l0 l1 l0 (l0.length : Int) 0) = some r := h; clear h; have H' := G.m H; clear H
 go_enter Try.func91, Try.ntmps91
 go_wp2
 go_loopg [11] k (fun kq aR w' => ∃ (aa : Int), aR = .int .i64 aa ∧ Aside0 (slices_Compare_int_int.l0 kq l0 l1 l0 (l0.length : Int) aa = some r) ∧ Aside0 (kq ≤ k) ∧ Drawn0 w w')
 case atStart => exact ⟨(0), (caaV), H', ⟨Nat.le_refl _⟩, by repeat (first | exact Drawn0.refl _ | apply Drawn0.step)⟩
 case round =>
  clear H'; obtain ⟨aa, rfl, HA, aM, ⟨m1, rfl⟩⟩ := hrel; cases gk with
  | zero => exact absurd HA.out (by simp [slices_Compare_int_int.l0])
  | succ k1 =>
   have H := HA.out; clear HA; simp only [slices_Compare_int_int.l0] at H
   by_cases c3 : aa < (l0.length : Int)
   ·rw [if_pos c3] at H; have aN : decide (aa < (l0.length : Int)) = true := decide_eq_true c3; clear c3
    by_cases c4 : 0 ≤ aa
    ·rw [if_pos c4] at H; have aV : decide (0 ≤ aa) = true := decide_eq_true c4; clear c4
     by_cases c5 : aa < (l0.length : Int)
     ·rw [if_pos c5] at H; have aW : decide (aa < (l0.length : Int)) = true := decide_eq_true c5; clear c5
      by_cases c6 : aa ≥ (l1.length : Int)
      ·rw [if_pos c6] at H; have aO : decide ((l1.length : Int) ≤ aa) = true := decide_eq_true c6; clear c6; obtain rfl := Option.some.inj H; have ag : 0 ≤ (aa : Int) := of_decide_eq_true (G.asm); have ah : aa < (l0.length : Int) := of_decide_eq_true (G.asm); obtain ⟨aC, am, ao⟩ := Kd.at_int ax.out aa ag ah; cases am; replace ag := eq_true ag; replace ah := eq_true ah
       go_wp2
       go_ret
       exact ⟨caaV, by repeat (first | exact Drawn0.refl _ | apply Drawn0.step)⟩
      ·rw [if_neg c6] at H; have aO : decide ((l1.length : Int) ≤ aa) = false := decide_eq_false c6; clear c6
       by_cases c7 : aa < (l1.length : Int)
       ·rw [if_pos c7] at H; have aX : decide (aa < (l1.length : Int)) = true := decide_eq_true c7; clear c7; obtain ⟨ac, A8, H⟩ := G.bi H; replace H : (if ac = 0 then (slices_Compare_int_int.l0 k1 l0 l1 l0 (l0.length : Int) (wrap64 (aa + 1))) else (some ac)) = some r := H
        by_cases c9 : ac = 0
        ·rw [if_pos c9] at H; have aP : (ac == 0) = true := beq_iff_eq.mpr c9; have aQ : (ac != 0) = false := bne_eq_false_iff_eq.mpr c9; clear c9; have H' := G.m H; clear H; have ag : 0 ≤ (aa : Int) := of_decide_eq_true (G.asm); have ah : aa < (l0.length : Int) := of_decide_eq_true (G.asm); obtain ⟨aC, am, ao⟩ := Kd.at_int ax.out aa ag ah; cases am; replace ag := eq_true ag; replace ah := eq_true ah; have ai : 0 ≤ (aa : Int) := of_decide_eq_true (G.asm); have aj : aa < (l1.length : Int) := of_decide_eq_true (G.asm); obtain ⟨aG, az, aE⟩ := Kd.at_int aB.out aa ai aj; cases az; replace ai := eq_true ai; replace aj := eq_true aj
         go_wp2_with (first | ((with_reducible refine G.f 90 rfl ?_); refine G.gL 26 Try.func90 #[.int .i64 (rd l0 aa), .int .i64 (rd l1 aa)] ?_; (with_reducible refine (cmp_Compare_int.calls (rd l0 aa) (rd l1 aa) ac _ A8.out).mono ?_); rintro e w' ⟨rfl, ⟨nd, rfl⟩⟩; refine ⟨_, rfl, ?_⟩))
         go_roundg k1
         case measure => have := aM.out; omega
         case rel => exact ⟨(wrap64 (aa + 1)), (caaV), H', ⟨by have := aM.out; omega⟩, by repeat (first | exact Drawn0.refl _ | apply Drawn0.step)⟩
        ·rw [if_neg c9] at H; have aP : (ac == 0) = false := beq_eq_false_iff_ne.mpr c9; have aQ : (ac != 0) = true := bne_iff_ne.mpr c9; obtain rfl := Option.some.inj H; have ag : 0 ≤ (aa : Int) := of_decide_eq_true (G.asm); have ah : aa < (l0.length : Int) := of_decide_eq_true (G.asm); obtain ⟨aC, am, ao⟩ := Kd.at_int ax.out aa ag ah; cases am; replace ag := eq_true ag; replace ah := eq_true ah; have ai : 0 ≤ (aa : Int) := of_decide_eq_true (G.asm); have aj : aa < (l1.length : Int) := of_decide_eq_true (G.asm); obtain ⟨aG, az, aE⟩ := Kd.at_int aB.out aa ai aj; cases az; replace ai := eq_true ai; replace aj := eq_true aj
         go_wp2_with (first | ((with_reducible refine G.f 90 rfl ?_); refine G.gL 26 Try.func90 #[.int .i64 (rd l0 aa), .int .i64 (rd l1 aa)] ?_; (with_reducible refine (cmp_Compare_int.calls (rd l0 aa) (rd l1 aa) ac _ A8.out).mono ?_); rintro e w' ⟨rfl, ⟨nd, rfl⟩⟩; refine ⟨_, rfl, ?_⟩))
         go_ret
         exact ⟨caaV, by repeat (first | exact Drawn0.refl _ | apply Drawn0.step)⟩
       ·rw [if_neg c7] at H; exact absurd H (by simp)
     ·rw [if_neg c5] at H; exact absurd H (by simp)
    ·rw [if_neg c4] at H; exact absurd H (by simp)
   ·rw [if_neg c3] at H; have aN : decide (aa < (l0.length : Int)) = false := decide_eq_false c3; clear c3
    by_cases c10 : (l0.length : Int) < (l1.length : Int)
    ·rw [if_pos c10] at H; have aH : decide ((l0.length : Int) < (l1.length : Int)) = true := decide_eq_true c10; have aI : decide (l0.length < l1.length) = true := decide_eq_true (Int.ofNat_lt.mp c10); clear c10; obtain rfl := Option.some.inj H
     go_wp2
     go_ret
     exact ⟨caaV, by repeat (first | exact Drawn0.refl _ | apply Drawn0.step)⟩
    ·rw [if_neg c10] at H; have aH : decide ((l0.length : Int) < (l1.length : Int)) = false := decide_eq_false c10; have aI : decide (l0.length < l1.length) = false := decide_eq_false (fun h => c10 (Int.ofNat_lt.mpr h)); clear c10; obtain rfl := Option.some.inj H
     go_wp2
     go_ret
     exact ⟨caaV, by repeat (first | exact Drawn0.refl _ | apply Drawn0.step)⟩

/-! ### impl_wayOrder: function 77 -/
def impl_wayOrder.f (k : Nat) (l0 : List Int) (l1 : List Int) : Option (Int) := (cmp_Compare_int.f (l0.length : Int) (l1.length : Int)).bind fun ae => ((slices_Compare_int_int.f k l0 l1).bind fun ab => ((cmp_Or_int.f k (([ae, ab] : List Int))).bind fun af => (some af)))
theorem impl_wayOrder.mono : ∀ a0 a1 k, LeO (impl_wayOrder.f k a0 a1) (impl_wayOrder.f (k + 1) a0 a1) := by
 intro a0 a1 k; unfold impl_wayOrder.f
 repeat' first | (with_reducible first | exact cmp_Or_int.mono _ _ | exact slices_Compare_int_int.mono _ _ _ | exact LeO.refl _ | exact LeO.none _ | refine LeO.ite ?_ ?_ | refine LeO.bind ?_ (fun _ => ?_)) | exact cmp_Or_int.mono _ _ | exact slices_Compare_int_int.mono _ _ _ | exact LeO.none _ | refine LeO.ite ?_ ?_ | refine LeO.bind ?_ (fun _ => ?_)
set_option maxHeartbeats 8000000 in
set_option maxRecDepth 100000 in
theorem impl_wayOrder.calls (k : Nat) (A0 : Option Addr) (c0 : Nat) (l0 : List Int) (A1 : Option Addr) (c1 : Nat) (l1 : List Int) (r : Int) (w : World) (au : Kd.C (Kd.int .i64) w A0 l0.length l0) (av : l0.length ≤ c0) (hr1 : Kd.C (Kd.int .i64) w A1 l1.length l1) (aw : l1.length ≤ c1) (h : impl_wayOrder.f k l0 l1 = some r) :
  Calls Try.prog 77 #[.slice A0 l0.length c0, .slice A1 l1.length c1] w fun e w' => e = .returned (.int .i64 r) ∧ Below w.heap.size w w' := by
 have ax := G.m au; have aK := G.m av; clear au av; have aB := G.m hr1; have aL := G.m aw; clear hr1 aw; have HB := G.m (Below.refl w.heap.size w); have H : ((cmp_Compare_int.f (l0.length : Int) (l1.length : Int)).bind fun ae => ((slices_Compare_int_int.f k l0 l1).bind fun ab => ((cmp_Or_int.f k (([ae, ab] : List Int))).bind fun af => (some af)))) = some r := h; clear h; obtain ⟨ae, A3, H⟩ := G.bi H; replace H : ((slices_Compare_int_int.f k l0 l1).bind fun ab => ((cmp_Or_int.f k (([ae, ab] : List Int))).bind fun af => (some af))) = some r := H; obtain ⟨ab, A4, H⟩ := G.bi H; replace H : ((cmp_Or_int.f k (([ae, ab] : List Int))).bind fun af => (some af)) = some r := H; obtain ⟨aA, ak⟩ : ∃ y_ : List Int, y_ = (([ae, ab] : List Int)) := ⟨_, rfl⟩; replace H : ((cmp_Or_int.f k aA).bind fun af => (some af)) = some r := by first | (rw [ak]; with_reducible exact H) | (have aF := (Option.bind_some _ _).symm.trans H; rw [ak]; with_reducible exact aF) | (have aF := (Option.bind_some _ _).symm.trans H; with_reducible exact aF) | with_reducible exact H | (rw [ak]; exact H) | exact H
 have aD := G.m ak; clear ak; obtain ⟨af, A5, H⟩ := G.bi H; replace H : (some af) = some r := H; obtain rfl := Option.some.inj H
 go_enter Try.func77, Try.ntmps77
 go_wp2_with (first | ((with_reducible refine G.f 90 rfl ?_); refine G.gL 9 Try.func90 #[.int .i64 (l0.length : Int), .int .i64 (l1.length : Int)] ?_; (with_reducible refine (cmp_Compare_int.calls (l0.length : Int) (l1.length : Int) ae _ A3.out).mono ?_); rintro e w' ⟨rfl, ⟨nd, rfl⟩⟩; refine ⟨_, rfl, ?_⟩) | ((with_reducible refine G.f 91 rfl ?_); refine G.gL 12 Try.func91 #[.slice A0 l0.length c0, .slice A1 l1.length c1] ?_; (with_reducible refine (slices_Compare_int_int.calls k _ _ l0 _ _ l1 ab _ ?side1 ?side2 ?side3 ?side4 A4.out).mono ?_); (case side1 => exact G.cC ax.out); (case side2 => exact aK.out); (case side3 => exact G.cC aB.out); (case side4 => exact aL.out); rintro e w' ⟨rfl, ⟨nd, rfl⟩⟩; refine ⟨_, rfl, ?_⟩) | ((with_reducible refine G.h 13 rfl ?_); refine Kd.R_lit (Kd.int .i64) _ 3 ?hg (N := 13) ?hd (xs := ([ae, ab] : List Int)) (inner := [.int .i64 ae, .int .i64 ab]) (ok := fun _ => True) (okp := fun _ => True) ?hr ?hp (fun _ hk => hk) trivial (Below.refl _ _) (Nat.le_refl _) (by simp) ?_; (case hd => rfl); (case hg => rfl); (case hr => first | (go_simp; done) | (go_simp; rfl)); (case hp => exact (Reps.one (show Kd.M (Kd.int .i64) _ _ _ ae [.int .i64 ae] from rfl) (Reps.one (show Kd.M (Kd.int .i64) _ _ _ ab [.int .i64 ab] from rfl) (Reps.none _ _)))); intro aY w6 ay hb hg_ hnew_; clear hg_ hnew_; (first | rw [← aD.out] at ay | (simp only [Int.reduceToNat] at ay; rw [← aD.out] at ay)); have n0 := G.m (Kd.R_lower ay (below_size (G.cB HB.out))); have n1 := G.bs HB hb; clear HB; revert n0 n1; intro ap HB; clear hb ay; obtain ⟨aS, aT, aU⟩ := Kd.R_slice ap.out; subst aU) | ((with_reducible refine G.f 89 rfl ?_); refine G.gL 14 Try.func89 #[.slice aS aA.length aT] ?_; (with_reducible refine (cmp_Or_int.calls k _ _ aA af _ ?side1 ?side2 A5.out).mono ?_); (case side1 => exact G.cC (Kd.R_reads' ap.out).2.2); (case side2 => exact (Kd.R_reads' ap.out).2.1); rintro e w' ⟨rfl, ⟨nd, rfl⟩⟩; refine ⟨_, rfl, ?_⟩))
 go_ret
 exact ⟨by first | rfl | (simp [errW_none, errW_some] <;> rfl) | (simp [*, errW_none, errW_some] <;> rfl), G.cB HB.out⟩

end Go.Proofs.Ytddadihobjinhaa.P
