-- Printed by a program of this session (mp.py, over the kit's print). Not trusted: Lean checks it.
import Derived.Test.YtbkdpnfjcnkoeaaF0
namespace Go.Proofs.Ytbkdpnfjcnkoeaa.P
open Go.RowKit Go.Proofs.YtbkdpnfjcnkoeaaW.PrintWords Go.Proofs.YtbkdpnfjcnkoeaaW.PrintLast Go.Proofs.YtbkdpnfjcnkoeaaW.PrintMore
attribute [local go_sem] max2_int min2_int max_two min_two max_three min_three max_four min_four   -- for this text's walks alone
set_option linter.unusedVariables false
set_option linter.unusedSimpArgs false

theorem cadu {p : Prop} (h : p := by first | rfl | (simp; done) | (simp [*]; done)) : p := h
/-! ### laws_loMany: function 29 -/
def laws_loMany.l0 : Nat → Int → Int → Int → Int → List (S63) → Option (Int)
 | 0, _, _, _, _, _ => none
 | k + 1, x1, x5, x6, aq, ag => if x6 < (ag.length : Int) then (if 0 ≤ x6 then (if ((rd_T63 ag x6).f0) = x1 then (laws_loMany.l0 k x1 (wrap64 (x5 + 1)) (wrap64 (x6 + 1)) aq ag) else (if ((rd_T63 ag x6).f1) = x1 then (laws_loMany.l0 k x1 (wrap64 (x5 + 1)) (wrap64 (x6 + 1)) aq ag) else (laws_loMany.l0 k x1 x5 (wrap64 (x6 + 1)) aq ag))) else (none)) else (some x5)
def laws_loMany.f (k : Nat) (al : Int) (ab : List (S63)) (a1 : Int) : Option (Int) := laws_loMany.l0 k a1 0 0 al ab
theorem laws_loMany.mono_l : ∀ k, (∀ y0 y1 y2 y3 y4, LeO (laws_loMany.l0 k y0 y1 y2 y3 y4) (laws_loMany.l0 (k + 1) y0 y1 y2 y3 y4))
 | 0 => fun _ _ _ _ _ r h => by simp [laws_loMany.l0] at h
 | k + 1 => by
  have aC := laws_loMany.mono_l k
  ·intro y0 y1 y2 y3 y4; unfold laws_loMany.l0
   repeat' first
   | (with_reducible exact aC _ _ _ _ _)
   | (with_reducible exact LeO.refl _)
   | (with_reducible exact LeO.none _)
   | (with_reducible refine LeO.ite ?_ ?_)
   | (with_reducible refine LeO.bind ?_ (fun _ => ?_))
   | exact aC _ _ _ _ _
   | exact LeO.none _
   | refine LeO.ite ?_ ?_
   | refine LeO.bind ?_ (fun _ => ?_)
theorem laws_loMany.mono : ∀ a0 a1 a2 k, LeO (laws_loMany.f k a0 a1 a2) (laws_loMany.f (k + 1) a0 a1 a2) := by
 intro a0 a1 a2 k; have aC := laws_loMany.mono_l k; unfold laws_loMany.f
 repeat' first | (with_reducible first | exact aC _ _ _ _ _ | exact LeO.refl _ | exact LeO.none _ | refine LeO.ite ?_ ?_ | refine LeO.bind ?_ (fun _ => ?_)) | exact aC _ _ _ _ _ | exact LeO.none _ | refine LeO.ite ?_ ?_ | refine LeO.bind ?_ (fun _ => ?_)
set_option maxHeartbeats 8000000 in
set_option maxRecDepth 100000 in
theorem laws_loMany.calls (k : Nat) (al : Int) (ay : Option Addr) (az : Nat) (ab : List (S63)) (a1 : Int) (r : Int) (w : World) (aE : Kd.C k63 w ay ab.length ab) (aF : ab.length ≤ az) (h : laws_loMany.f k al ab a1 = some r) :
  Calls Try.prog 29 #[.agg #[.int .i64 al, .slice ay ab.length az], .int .i64 a1] w fun e w' => e = .returned (.int .i64 r) ∧ Below w.heap.size w w' := by
 have a7 := Try.underlying29; have ap := G.m aE; have a4 := G.m aF; clear aE aF; have HB := G.m (Below.refl w.heap.size w); have H : (laws_loMany.l0 k a1 0 0 al ab) = some r := h; clear h; have H' := G.m H; clear H
 go_enter Try.func29, Try.ntmps29
 go_wp2_with (first | ((with_reducible refine G.h 2 rfl ?_); refine G.be 2 #[.int .i64 al, .slice ay ab.length az] 29 ?_; intro aA hg w3 hbox hb; have n0 := G.bs HB hb; have n1 := G.m (hbox); have n2 := G.m ((by rw [hg]; exact (below_size (G.cB HB.out)) : w.heap.size ≤ aA)); have n3 := G.m ((by rw [hg]; exact (below_size (G.cB HB.out)) : w.heap.size ≤ aA)); clear HB; revert n0 n1 n2 n3; intro HB af a5 a6; clear hb hbox hg))
 go_loopg [5, 6] k (fun kq v5 v6 w' => ∃ (au : Int) (aa : Int), v5 = .int .i64 au ∧ v6 = .int .i64 aa ∧ Aside0 (laws_loMany.l0 kq a1 au aa al ab = some r) ∧ Aside0 (kq ≤ k) ∧ Aside0 (w'.heap[aA]? = some (.cells #[.int .i64 al, (.slice ay ab.length az)] 29 (0, 0))) ∧ Aside0 (Below w.heap.size w w'))
 case atStart => exact ⟨(0), (0), (cadu), (cadu), H', ⟨Nat.le_refl _⟩, ⟨G.cb af.out⟩, ⟨G.cB HB.out⟩⟩
 case round =>
  clear H'; obtain ⟨au, aa, rfl, rfl, HA, ax, af, HB⟩ := hrel; cases gk with
  | zero => exact absurd HA.out (by simp [laws_loMany.l0])
  | succ k1 =>
   have H := HA.out; clear HA; simp only [laws_loMany.l0] at H
   by_cases c4 : aa < (ab.length : Int)
   ·rw [if_pos c4] at H; have aG : decide (aa < (ab.length : Int)) = true := decide_eq_true c4; clear c4
    by_cases c5 : 0 ≤ aa
    ·rw [if_pos c5] at H; have a8 : decide (0 ≤ aa) = true := decide_eq_true c5; clear c5
     by_cases c6 : ((rd_T63 ab aa).f0) = a1
     ·rw [if_pos c6] at H; have aH : (((rd_T63 ab aa).f0) == a1) = true := beq_iff_eq.mpr c6; have aI : (((rd_T63 ab aa).f0) != a1) = false := bne_eq_false_iff_eq.mpr c6; clear c6; have H' := G.m H; clear H; have ⟨aT, aU, aV, aW⟩ := G.d2 (w := wr) af; have ah : 0 ≤ (aa : Int) := of_decide_eq_true (G.asm); have ai : aa < (ab.length : Int) := of_decide_eq_true (G.asm); obtain ⟨av, aw, ac, ae⟩ := at_T63 ap.out aa ah ai; cases aw; replace ac := G.hx HB ac; replace ae := G.hx HB ae; replace ah := eq_true ah; replace ai := eq_true ai
      go_wp2
      go_roundg k1
      case measure => have := ax.out; omega
      case rel => exact ⟨(wrap64 (au + 1)), (wrap64 (aa + 1)), (cadu), (cadu), H', ⟨by have := ax.out; omega⟩, ⟨G.cb af.out⟩, ⟨G.cB HB.out⟩⟩
     ·rw [if_neg c6] at H; have aH : (((rd_T63 ab aa).f0) == a1) = false := beq_eq_false_iff_ne.mpr c6; have aI : (((rd_T63 ab aa).f0) != a1) = true := bne_iff_ne.mpr c6
      by_cases c8 : ((rd_T63 ab aa).f1) = a1
      ·rw [if_pos c8] at H; have aJ : (((rd_T63 ab aa).f1) == a1) = true := beq_iff_eq.mpr c8; have aK : (((rd_T63 ab aa).f1) != a1) = false := bne_eq_false_iff_eq.mpr c8; clear c8; have H' := G.m H; clear H; have ⟨aX, aY, aZ, a3⟩ := G.d2 (w := wr) af; have ah : 0 ≤ (aa : Int) := of_decide_eq_true (G.asm); have ai : aa < (ab.length : Int) := of_decide_eq_true (G.asm); obtain ⟨av, aw, ac, ae⟩ := at_T63 ap.out aa ah ai; cases aw; replace ac := G.hx HB ac; replace ae := G.hx HB ae; replace ah := eq_true ah; replace ai := eq_true ai; have am : 0 ≤ (aa : Int) := of_decide_eq_true (G.asm); have ao : aa < (ab.length : Int) := of_decide_eq_true (G.asm); obtain ⟨aB, aD, aj, ak⟩ := at_T63 ap.out aa am ao; obtain rfl : av = aB := (by injection aD); replace aj := G.hx HB aj; replace ak := G.hx HB ak; replace am := eq_true am; replace ao := eq_true ao
       go_wp2
       go_roundg k1
       case measure => have := ax.out; omega
       case rel => exact ⟨(wrap64 (au + 1)), (wrap64 (aa + 1)), (cadu), (cadu), H', ⟨by have := ax.out; omega⟩, ⟨G.cb af.out⟩, ⟨G.cB HB.out⟩⟩
      ·rw [if_neg c8] at H; have aJ : (((rd_T63 ab aa).f1) == a1) = false := beq_eq_false_iff_ne.mpr c8; have aK : (((rd_T63 ab aa).f1) != a1) = true := bne_iff_ne.mpr c8; have H' := G.m H; clear H; have ⟨aL, aM, aN, aO⟩ := G.d2 (w := wr) af; have ah : 0 ≤ (aa : Int) := of_decide_eq_true (G.asm); have ai : aa < (ab.length : Int) := of_decide_eq_true (G.asm); obtain ⟨av, aw, ac, ae⟩ := at_T63 ap.out aa ah ai; cases aw; replace ac := G.hx HB ac; replace ae := G.hx HB ae; replace ah := eq_true ah; replace ai := eq_true ai; have am : 0 ≤ (aa : Int) := of_decide_eq_true (G.asm); have ao : aa < (ab.length : Int) := of_decide_eq_true (G.asm); obtain ⟨aB, aD, aj, ak⟩ := at_T63 ap.out aa am ao; obtain rfl : av = aB := (by injection aD); replace aj := G.hx HB aj; replace ak := G.hx HB ak; replace am := eq_true am; replace ao := eq_true ao
       go_wp2
       go_roundg k1
       case measure => have := ax.out; omega
       case rel => exact ⟨(au), (wrap64 (aa + 1)), (cadu), (cadu), H', ⟨by have := ax.out; omega⟩, ⟨G.cb af.out⟩, ⟨G.cB HB.out⟩⟩
    ·rw [if_neg c5] at H; exact absurd H (by simp)
   ·rw [if_neg c4] at H; have aG : decide (aa < (ab.length : Int)) = false := decide_eq_false c4; clear c4; obtain rfl := Option.some.inj H; have ⟨aP, aQ, aR, aS⟩ := G.d2 (w := wr) af
    go_wp2
    go_ret
    exact ⟨by first | rfl | (simp [errW_none, errW_some] <;> rfl) | (simp [*, errW_none, errW_some] <;> rfl), G.cB HB.out⟩

end Go.Proofs.Ytbkdpnfjcnkoeaa.P
