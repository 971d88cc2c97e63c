-- Printed by a program of this session (mp.py, over the kit's print). Not trusted: Lean checks it.
import Derived.Test.YtbkdpnfjcnkoeaaF0
import Derived.Test.YtbkdpnfjcnkoeaaF3
namespace Go.Proofs.Ytbkdpnfjcnkoeaa.P
open Go.RowKit Go.Proofs.YtbkdpnfjcnkoeaaW.PrintWords Go.Proofs.YtbkdpnfjcnkoeaaW.PrintLast Go.Proofs.YtbkdpnfjcnkoeaaW.PrintMore
attribute [local go_sem] max2_int min2_int max_two min_two max_three min_three max_four min_four   -- for this text's walks alone
set_option linter.unusedVariables false
set_option linter.unusedSimpArgs false

theorem caas {p : Prop} (h : p := by rw [hg]; exact Nat.ne_of_lt (blk_lt (g := aj) (o := .cells #[.int .i64 ae, .slice (some ay) aa.length ao] 29 (0, 0)) (G.cb ac.out))) : p := h
theorem caat {p : Prop} (h : p := by rw [hg]; exact Nat.ne_of_gt (blk_lt (g := aj) (o := .cells #[.int .i64 ae, .slice (some ay) aa.length ao] 29 (0, 0)) (G.cb ac.out))) : p := h
theorem caar {p : Prop} (h : p := by first | rfl | (simp [errW_none, errW_some] <;> rfl) | (simp [*, errW_none, errW_some] <;> rfl)) : p := h
theorem caaq {p : Prop} (h : p := by rw [hg]; exact (below_size (G.cB HB.out))) : p := h
/-! ### impl_NetOk: function 42 -/
mutual
def impl_NetOk.j0 : Nat → Bool → Int → List (S63) → Option (Bool)
 | 0, _, _, _ => none
 | k + 1, bO, av, ap => if bO = true then (some false) else (impl_NetOk.l0 k ap (ap.length : Int) 0 av ap)
def impl_NetOk.l0 : Nat → List (S63) → Int → Int → Int → List (S63) → Option (Bool)
 | 0, _, _, _, _, _ => none
 | k + 1, aF, a8, aC, av, ap => if aC < a8 then (if 0 ≤ aC then (if aC < (aF.length : Int) then (if ((rd_T63 aF aC).f0) < 0 then (some false) else (if ((rd_T63 aF aC).f0) ≥ ((rd_T63 aF aC).f1) then (some false) else (if ((rd_T63 aF aC).f1) ≥ av then (some false) else (impl_NetOk.l0 k aF a8 (wrap64 (aC + 1)) av ap)))) else (none)) else (none)) else ((impl_ascending.f k ap).bind fun aJ => (some aJ))
end
def impl_NetOk.f (k : Nat) (ae : Int) (aa : List (S63)) : Option (Bool) := if ae < 0 then (impl_NetOk.j0 k true ae aa) else (impl_NetOk.j0 k (decide (ae > 8)) ae aa)
theorem impl_NetOk.mono_l : ∀ k, (∀ y0 y1 y2, LeO (impl_NetOk.j0 k y0 y1 y2) (impl_NetOk.j0 (k + 1) y0 y1 y2)) ∧ (∀ y0 y1 y2 y3 y4, LeO (impl_NetOk.l0 k y0 y1 y2 y3 y4) (impl_NetOk.l0 (k + 1) y0 y1 y2 y3 y4))
 | 0 => ⟨fun _ _ _ r h => by simp [impl_NetOk.j0] at h, fun _ _ _ _ _ r h => by simp [impl_NetOk.l0] at h⟩
 | k + 1 => by
  obtain ⟨aM, aN⟩ := impl_NetOk.mono_l k; refine ⟨?_, ?_⟩ <;> intros
  all_goals first | unfold impl_NetOk.j0 | unfold impl_NetOk.l0
  repeat' first | (with_reducible first | exact aM _ _ _ | exact aN _ _ _ _ _ | exact impl_ascending.mono _ _ | exact LeO.refl _ | exact LeO.none _ | refine LeO.ite ?_ ?_ | refine LeO.bind ?_ (fun _ => ?_)) | exact aM _ _ _ | exact aN _ _ _ _ _ | exact impl_ascending.mono _ _ | exact LeO.none _ | refine LeO.ite ?_ ?_ | refine LeO.bind ?_ (fun _ => ?_)
theorem impl_NetOk.mono : ∀ a0 a1 k, LeO (impl_NetOk.f k a0 a1) (impl_NetOk.f (k + 1) a0 a1) := by
 intro a0 a1 k; obtain ⟨aM, aN⟩ := impl_NetOk.mono_l k; unfold impl_NetOk.f
 repeat' first | (with_reducible first | exact aM _ _ _ | exact aN _ _ _ _ _ | exact impl_ascending.mono _ _ | exact LeO.refl _ | exact LeO.none _ | refine LeO.ite ?_ ?_ | refine LeO.bind ?_ (fun _ => ?_)) | exact aM _ _ _ | exact aN _ _ _ _ _ | exact impl_ascending.mono _ _ | exact LeO.none _ | refine LeO.ite ?_ ?_ | refine LeO.bind ?_ (fun _ => ?_)
set_option maxHeartbeats 8000000 in
set_option maxRecDepth 100000 in
theorem impl_NetOk.calls (k : Nat) (ae : Int) (aq : Option Addr) (ao : Nat) (aa : List (S63)) (r : Bool) (w : World) (az : Kd.C k63 w aq aa.length aa) (aA : aa.length ≤ ao) (h : impl_NetOk.f k ae aa = some r) :
  Calls Try.prog 42 #[.agg #[.int .i64 ae, .slice aq aa.length ao]] w fun e w' => e = .returned (.bool r) ∧ Below w.heap.size w w' := by
 have bd := Try.underlying29; have ca := Try.underlying63; have aw := G.m az; have aO := G.m aA; clear az aA; have HB := G.m (Below.refl w.heap.size w); have H : (if ae < 0 then (impl_NetOk.j0 k true ae aa) else (impl_NetOk.j0 k (decide (ae > 8)) ae aa)) = some r := h; clear h; have aR := G.m H; clear H
 go_enter Try.func42, Try.ntmps42
 go_upto_region 1 with (first | ((with_reducible refine G.h 1 rfl ?_); refine G.be 1 #[.int .i64 ae, .slice aq aa.length ao] 29 ?_; intro aj hg w3 hbox hb; have n0 := G.bs HB hb; have n1 := G.m (hbox); have n2 := G.m (caaq : w.heap.size ≤ aj); have n3 := G.m (caaq : w.heap.size ≤ aj); clear HB; revert n0 n1 n2 n3; intro HB ac bY bZ; clear hb hbox hg))
 (try simp only [Act.put, List.setIfInBounds_toArray, List.set_cons_zero, List.set_cons_succ])
 go_cut [12] (fun bP wc => ∃ (kq : Nat) (aD : Bool), bP = .bool aD ∧ Aside0 (impl_NetOk.j0 kq aD ae aa = some r) ∧ Aside0 (kq ≤ k) ∧ Aside0 (wc.heap[aj]? = some (.cells #[.int .i64 ae, (.slice aq aa.length ao)] 29 (0, 0))) ∧ Aside0 (Below w.heap.size w wc))
 case first =>
  have H := aR.out; clear aR
  by_cases c4 : ae < 0
  ·rw [if_pos c4] at H; have aE : decide (ae < 0) = true := decide_eq_true c4; clear c4; (first | rw [aE] | (simp only [i64_w, i32_w]; rw [aE]) | skip); have H' := G.m H; clear H; have ⟨aS, aT, aU, aV⟩ := G.d2 (w := w3) ac
   go_wp2
   go_meet
   case rel => exact ⟨_, (true), (by first | rfl | (simp; done) | (simp [*]; done)), H', ⟨by first | omega | exact Nat.le_refl _⟩, ⟨G.cb ac.out⟩, ⟨G.cB HB.out⟩⟩
  ·rw [if_neg c4] at H; have aE : decide (ae < 0) = false := decide_eq_false c4; clear c4; (first | rw [aE] | (simp only [i64_w, i32_w]; rw [aE]) | skip); have H' := G.m H; clear H; have ⟨bQ, bR, bS, bT⟩ := G.d2 (w := w3) ac
   go_wp2
   go_meet
   case rel => exact ⟨_, (decide (ae > 8)), (by first | rfl | (simp; done) | (simp [*]; done)), H', ⟨by first | omega | exact Nat.le_refl _⟩, ⟨G.cb ac.out⟩, ⟨G.cB HB.out⟩⟩
 case rest =>
  clear aR; obtain ⟨kq, aD, rfl, HA, a9, ac, HB⟩ := hcut; cases kq with
  | zero => exact absurd HA.out (by simp [impl_NetOk.j0])
  | succ aW =>
   have H := HA.out; clear HA; simp only [impl_NetOk.j0] at H
   by_cases c7 : aD = true
   ·subst c7; have H1 : (some false) = some r := by rw [if_pos rfl] at H; exact H
    clear H; have H := H1; clear H1; obtain rfl := Option.some.inj H
    go_wp2
    go_ret
    exact ⟨caar, G.cB HB.out⟩
   ·replace c7 := Bool.eq_false_iff.mpr c7; subst c7; have H1 : (impl_NetOk.l0 aW aa (aa.length : Int) 0 ae aa) = some r := by rw [if_neg (show ¬ (false = true) by decide)] at H; exact H
    clear H; have H := H1; clear H1; have H' := G.m H; clear H; have ⟨aX, aY, aZ, a2⟩ := G.d2 (w := wc) ac
    go_wp2
    go_loopg [16] aW (fun kq bU w' => ∃ (ab : Int), bU = .int .i64 ab ∧ Aside0 (impl_NetOk.l0 kq aa (aa.length : Int) ab ae aa = some r) ∧ Aside0 (kq ≤ aW) ∧ Aside0 (w'.heap[aj]? = some (.cells #[.int .i64 ae, (.slice aq aa.length ao)] 29 (0, 0))) ∧ Aside0 (Below w.heap.size w w'))
    case atStart => exact ⟨(0), (by first | rfl | (simp; done) | (simp [*]; done)), H', ⟨Nat.le_refl _⟩, ⟨G.cb ac.out⟩, ⟨G.cB HB.out⟩⟩
    case round =>
     clear H'; (try clear c7 aX aY aZ a2); obtain ⟨ab, rfl, HA, a_, ac, HB⟩ := hrel; cases gk with
     | zero => exact absurd HA.out (by simp [impl_NetOk.l0])
     | succ k2 =>
      have H := HA.out; clear HA; simp only [impl_NetOk.l0] at H
      by_cases c9 : ab < (aa.length : Int)
      ·rw [if_pos c9] at H; have bf : decide (ab < (aa.length : Int)) = true := decide_eq_true c9; clear c9
       by_cases c10 : 0 ≤ ab
       ·rw [if_pos c10] at H; have b1 : decide (0 ≤ ab) = true := decide_eq_true c10; clear c10
        by_cases aP : ab < (aa.length : Int)
        ·rw [if_pos aP] at H; have b2 : decide (ab < (aa.length : Int)) = true := decide_eq_true aP; clear aP
         by_cases aG : ((rd_T63 aa ab).f0) < 0
         ·rw [if_pos aG] at H; have a3 : decide (((rd_T63 aa ab).f0) < 0) = true := decide_eq_true aG; clear aG; obtain rfl := Option.some.inj H; have al : 0 ≤ (ab : Int) := of_decide_eq_true (G.asm); have am : ab < (aa.length : Int) := of_decide_eq_true (G.asm); obtain ⟨ay, ax, ah, ai⟩ := at_T63 aw.out ab al am; cases ax; replace ah := G.hx HB ah; replace ai := G.hx HB ai; replace al := eq_true al; replace am := eq_true am
          go_wp2_with (first | ((with_reducible refine G.h 4 rfl ?_); refine G.be 4 #[.int .i64 0, .int .i64 0] 63 ?_; intro af hg bV hbox hb; have n0 := G.bb ac hb; have n1 := G.bs HB hb; have n2 := G.m (hbox); have n3 := G.m (caaq : w.heap.size ≤ af); have n4 := G.m (caaq : w.heap.size ≤ af); have n5 := G.m (caas : aj ≠ af); have n6 := G.m (caat : af ≠ aj); clear ac HB; revert n0 n1 n2 n3 n4 n5 n6; intro ac HB au aK aL ag ak; clear hb hbox hg; have b3 := ak.out; have b4 := ag.out; have ⟨bj, bk, bl, bm⟩ := G.d2 (w := bV) au))
          go_ret
          exact ⟨caar, G.cB HB.out⟩
         ·rw [if_neg aG] at H; have a3 : decide (((rd_T63 aa ab).f0) < 0) = false := decide_eq_false aG; clear aG
          by_cases aH : ((rd_T63 aa ab).f0) ≥ ((rd_T63 aa ab).f1)
          ·rw [if_pos aH] at H; have a4 : decide (((rd_T63 aa ab).f1) ≤ ((rd_T63 aa ab).f0)) = true := decide_eq_true aH; clear aH; obtain rfl := Option.some.inj H; have al : 0 ≤ (ab : Int) := of_decide_eq_true (G.asm); have am : ab < (aa.length : Int) := of_decide_eq_true (G.asm); obtain ⟨ay, ax, ah, ai⟩ := at_T63 aw.out ab al am; cases ax; replace ah := G.hx HB ah; replace ai := G.hx HB ai; replace al := eq_true al; replace am := eq_true am
           go_wp2_with (first | ((with_reducible refine G.h 4 rfl ?_); refine G.be 4 #[.int .i64 0, .int .i64 0] 63 ?_; intro af hg bW hbox hb; have n0 := G.bb ac hb; have n1 := G.bs HB hb; have n2 := G.m (hbox); have n3 := G.m (caaq : w.heap.size ≤ af); have n4 := G.m (caaq : w.heap.size ≤ af); have n5 := G.m (caas : aj ≠ af); have n6 := G.m (caat : af ≠ aj); clear ac HB; revert n0 n1 n2 n3 n4 n5 n6; intro ac HB au aK aL ag ak; clear hb hbox hg; have b5 := ak.out; have b6 := ag.out; have ⟨bn, bo, bp, bq⟩ := G.d2 (w := bW) au))
           go_ret
           exact ⟨caar, G.cB HB.out⟩
          ·rw [if_neg aH] at H; have a4 : decide (((rd_T63 aa ab).f1) ≤ ((rd_T63 aa ab).f0)) = false := decide_eq_false aH; clear aH
           by_cases aI : ((rd_T63 aa ab).f1) ≥ ae
           ·rw [if_pos aI] at H; have a5 : decide (ae ≤ ((rd_T63 aa ab).f1)) = true := decide_eq_true aI; clear aI; obtain rfl := Option.some.inj H; have al : 0 ≤ (ab : Int) := of_decide_eq_true (G.asm); have am : ab < (aa.length : Int) := of_decide_eq_true (G.asm); obtain ⟨ay, ax, ah, ai⟩ := at_T63 aw.out ab al am; cases ax; replace ah := G.hx HB ah; replace ai := G.hx HB ai; replace al := eq_true al; replace am := eq_true am
            go_wp2_with (first | ((with_reducible refine G.h 4 rfl ?_); refine G.be 4 #[.int .i64 0, .int .i64 0] 63 ?_; intro af hg ba hbox hb; have n0 := G.bb ac hb; have n1 := G.bs HB hb; have n2 := G.m (hbox); have n3 := G.m (caaq : w.heap.size ≤ af); have n4 := G.m (caaq : w.heap.size ≤ af); have n5 := G.m (caas : aj ≠ af); have n6 := G.m (caat : af ≠ aj); clear ac HB; revert n0 n1 n2 n3 n4 n5 n6; intro ac HB au aK aL ag ak; clear hb hbox hg; have b7 := ak.out; have b8 := ag.out; have ⟨br, bu, bv, bw⟩ := G.d2 (w := ba) au; have ⟨bx, bz, bA, bB⟩ := G.d2 (w := ba) ac))
            go_ret
            exact ⟨caar, G.cB HB.out⟩
           ·rw [if_neg aI] at H; have a5 : decide (ae ≤ ((rd_T63 aa ab).f1)) = false := decide_eq_false aI; clear aI; have H' := G.m H; clear H; have al : 0 ≤ (ab : Int) := of_decide_eq_true (G.asm); have am : ab < (aa.length : Int) := of_decide_eq_true (G.asm); obtain ⟨ay, ax, ah, ai⟩ := at_T63 aw.out ab al am; cases ax; replace ah := G.hx HB ah; replace ai := G.hx HB ai; replace al := eq_true al; replace am := eq_true am
            go_wp2_with (first | ((with_reducible refine G.h 4 rfl ?_); refine G.be 4 #[.int .i64 0, .int .i64 0] 63 ?_; intro af hg bc hbox hb; have n0 := G.bb ac hb; have n1 := G.bs HB hb; have n2 := G.m (hbox); have n3 := G.m (caaq : w.heap.size ≤ af); have n4 := G.m (caaq : w.heap.size ≤ af); have n5 := G.m (caas : aj ≠ af); have n6 := G.m (caat : af ≠ aj); clear ac HB; revert n0 n1 n2 n3 n4 n5 n6; intro ac HB au aK aL ag ak; clear hb hbox hg; have b9 := ak.out; have b_ := ag.out; have ⟨bC, bD, bE, bF⟩ := G.d2 (w := bc) au; have ⟨bG, bH, bI, bJ⟩ := G.d2 (w := bc) ac))
            go_roundg k2
            case measure => have := a9.out; have := a_.out; omega
            case rel => exact ⟨(wrap64 (ab + 1)), (by first | rfl | (simp; done) | (simp [*]; done)), H', ⟨by have := a9.out; have := a_.out; omega⟩, ⟨by (with_reducible repeat (first | refine blk_drewN ?_ _ | refine blk_drew ?_ | refine blk_alloc ?_ _)); refine blk_far ?_ ag.out _; (with_reducible repeat (first | refine blk_drewN ?_ _ | refine blk_drew ?_ | refine blk_alloc ?_ _)); refine blk_far ?_ ag.out _; (with_reducible repeat (first | refine blk_drewN ?_ _ | refine blk_drew ?_ | refine blk_alloc ?_ _)); exact ac.out⟩, ⟨G.cB HB.out⟩⟩
        ·rw [if_neg aP] at H; exact absurd H (by simp)
       ·rw [if_neg c10] at H; exact absurd H (by simp)
      ·rw [if_neg c9] at H; have bf : decide (ab < (aa.length : Int)) = false := decide_eq_false c9; clear c9; obtain ⟨aJ, bX, H⟩ := G.bi H; replace H : (some aJ) = some r := H; obtain rfl := Option.some.inj H; have ⟨bK, bL, bM, bN⟩ := G.d2 (w := wr) ac
       go_wp2_with (first | ((with_reducible refine G.f 63 rfl ?_); refine G.gL 40 Try.func63 #[.slice aq aa.length ao] ?_; (with_reducible refine (impl_ascending.calls k2 _ _ aa aJ _ ?side1 ?side2 bX.out).mono ?_); (case side1 => exact G.cC (Kd.C_below aw.out HB.out)); (case side2 => exact aO.out); rintro e cd ⟨rfl, hb⟩; refine ⟨_, rfl, ?_⟩; have n0 := G.bb ac hb; have n1 := G.bs HB hb; clear ac HB; revert n0 n1; intro ac HB; (try clear hb)))
       go_ret
       exact ⟨caar, G.cB HB.out⟩

/-! ### impl_Net_knot: function 43 -/
def impl_Net_knot.f (ae : Int) (aa : List (S63)) (a1 : Int) : Option (Bool) := if a1 ≥ 0 then (some (decide (a1 < ae))) else (some false)
set_option maxHeartbeats 8000000 in
set_option maxRecDepth 100000 in
theorem impl_Net_knot.calls (ae : Int) (aq : Option Addr) (ao : Nat) (aa : List (S63)) (a1 : Int) (r : Bool) (w : World) (az : Kd.C k63 w aq aa.length aa) (aA : aa.length ≤ ao) (h : impl_Net_knot.f ae aa a1 = some r) :
  Calls Try.prog 43 #[.agg #[.int .i64 ae, .slice aq aa.length ao], .int .i64 a1] w fun e w' => e = .returned (.bool r) ∧ Below w.heap.size w w' := by
 have bd := Try.underlying29; have aw := G.m az; have aO := G.m aA; clear az aA; have HB := G.m (Below.refl w.heap.size w); have H : (if a1 ≥ 0 then (some (decide (a1 < ae))) else (some false)) = some r := h; clear h
 by_cases c3 : a1 ≥ 0
 ·rw [if_pos c3] at H; have bh : decide (0 ≤ a1) = true := decide_eq_true c3; clear c3; obtain rfl := Option.some.inj H
  go_enter Try.func43, Try.ntmps43
  go_wp2_with (first | ((with_reducible refine G.h 2 rfl ?_); refine G.be 2 #[.int .i64 ae, .slice aq aa.length ao] 29 ?_; intro aB hg w4 hbox hb; have n0 := G.bs HB hb; have n1 := G.m (hbox); have n2 := G.m (caaq : w.heap.size ≤ aB); have n3 := G.m (caaq : w.heap.size ≤ aB); clear HB; revert n0 n1 n2 n3; intro HB aQ a6 a7; clear hb hbox hg; have ⟨aS, aT, aU, aV⟩ := G.d2 (w := w4) aQ))
  go_ret
  exact ⟨caar, G.cB HB.out⟩
 ·rw [if_neg c3] at H; have bh : decide (0 ≤ a1) = false := decide_eq_false c3; clear c3; obtain rfl := Option.some.inj H
  go_enter Try.func43, Try.ntmps43
  go_wp2_with (first | ((with_reducible refine G.h 2 rfl ?_); refine G.be 2 #[.int .i64 ae, .slice aq aa.length ao] 29 ?_; intro aB hg w6 hbox hb; have n0 := G.bs HB hb; have n1 := G.m (hbox); have n2 := G.m (caaq : w.heap.size ≤ aB); have n3 := G.m (caaq : w.heap.size ≤ aB); clear HB; revert n0 n1 n2 n3; intro HB aQ a6 a7; clear hb hbox hg))
  go_ret
  exact ⟨caar, G.cB HB.out⟩

end Go.Proofs.Ytbkdpnfjcnkoeaa.P
