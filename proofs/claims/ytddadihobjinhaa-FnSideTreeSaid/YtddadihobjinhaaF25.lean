-- Printed by a program of this session (mp.py, over the kit's print). Not trusted: Lean checks it.
import Derived.Test.YtddadihobjinhaaF0
import Derived.Test.YtddadihobjinhaaF3
import Derived.Test.YtddadihobjinhaaF11
namespace Go.Proofs.Ytddadihobjinhaa.P
open Go.RowKit Go.Proofs.YtddadihobjinhaaW.PrintWords Go.Proofs.YtddadihobjinhaaW.PrintLast Go.Proofs.YtddadihobjinhaaW.PrintMore
attribute [local go_sem] max2_int min2_int max_two min_two max_three min_three max_four min_four   -- for this text's walks alone
set_option linter.unusedVariables false
set_option linter.unusedSimpArgs false

theorem cacj {p : Prop} (h : p := by first | rfl | (simp [errW_none, errW_some] <;> rfl) | (simp [*, errW_none, errW_some] <;> rfl)) : p := h
theorem caci {p : Prop} (h : p := by first | rfl | (simp; done) | (simp [*]; done)) : p := h
/-! ### impl_SideOk: function 18 -/
mutual
def impl_SideOk.j0 : Nat → List Int → Bool → Int → List (S53) → Option (Bool)
 | 0, _, _, _, _ => none
 | k + 1, x1, a7, ai, aj => if a7 = true then (some false) else (impl_SideOk.l0 k x1 x1 (x1.length : Int) 0 ai aj)
def impl_SideOk.l0 : Nat → List Int → List Int → Int → Int → Int → List (S53) → Option (Bool)
 | 0, _, _, _, _, _, _ => none
 | k + 1, x1, aB, aN, aq, ai, aj => if aq < aN then (if 0 ≤ aq then (if aq < (aB.length : Int) then (if (rd aB aq) = 0 then (impl_SideOk.l0 k x1 aB aN (wrap64 (aq + 1)) ai aj) else (if (rd aB aq) = 1 then (impl_SideOk.l0 k x1 aB aN (wrap64 (aq + 1)) ai aj) else (some false))) else (none)) else (none)) else ((impl_Net_fine.f k ai aj x1).bind fun ay => (some ay))
end
def impl_SideOk.f (k : Nat) (ab : Int) (ac : List (S53)) (l1 : List Int) : Option (Bool) := (impl_NetOk.f k ab ac).bind fun am => (if am = true then (impl_SideOk.j0 k l1 ((l1.length : Int) != ab) ab ac) else (impl_SideOk.j0 k l1 true ab ac))
theorem impl_SideOk.mono_l : ∀ k, (∀ y0 y1 y2 y3, LeO (impl_SideOk.j0 k y0 y1 y2 y3) (impl_SideOk.j0 (k + 1) y0 y1 y2 y3)) ∧ (∀ y0 y1 y2 y3 y4 y5, LeO (impl_SideOk.l0 k y0 y1 y2 y3 y4 y5) (impl_SideOk.l0 (k + 1) y0 y1 y2 y3 y4 y5))
 | 0 => ⟨fun _ _ _ _ r h => by simp [impl_SideOk.j0] at h, fun _ _ _ _ _ _ r h => by simp [impl_SideOk.l0] at h⟩
 | k + 1 => by
  obtain ⟨aC, aD⟩ := impl_SideOk.mono_l k; refine ⟨?_, ?_⟩ <;> intros
  all_goals first | unfold impl_SideOk.j0 | unfold impl_SideOk.l0
  repeat' first | (with_reducible first | exact aC _ _ _ _ | exact aD _ _ _ _ _ _ | exact impl_NetOk.mono _ _ _ | exact impl_Net_fine.mono _ _ _ _ | exact LeO.refl _ | exact LeO.none _ | refine LeO.ite ?_ ?_ | refine LeO.bind ?_ (fun _ => ?_)) | exact aC _ _ _ _ | exact aD _ _ _ _ _ _ | exact impl_NetOk.mono _ _ _ | exact impl_Net_fine.mono _ _ _ _ | exact LeO.none _ | refine LeO.ite ?_ ?_ | refine LeO.bind ?_ (fun _ => ?_)
theorem impl_SideOk.mono : ∀ a0 a1 a2 k, LeO (impl_SideOk.f k a0 a1 a2) (impl_SideOk.f (k + 1) a0 a1 a2) := by
 intro a0 a1 a2 k; obtain ⟨aC, aD⟩ := impl_SideOk.mono_l k; unfold impl_SideOk.f
 repeat' first | (with_reducible first | exact aC _ _ _ _ | exact aD _ _ _ _ _ _ | exact impl_NetOk.mono _ _ _ | exact impl_Net_fine.mono _ _ _ _ | exact LeO.refl _ | exact LeO.none _ | refine LeO.ite ?_ ?_ | refine LeO.bind ?_ (fun _ => ?_)) | exact aC _ _ _ _ | exact aD _ _ _ _ _ _ | exact impl_NetOk.mono _ _ _ | exact impl_Net_fine.mono _ _ _ _ | exact LeO.none _ | refine LeO.ite ?_ ?_ | refine LeO.bind ?_ (fun _ => ?_)
set_option maxHeartbeats 8000000 in
set_option maxRecDepth 100000 in
theorem impl_SideOk.calls (k : Nat) (ab : Int) (ak : Option Addr) (al : Nat) (ac : List (S53)) (A1 : Option Addr) (c1 : Nat) (l1 : List Int) (r : Bool) (w : World) (aF : Kd.C k53 w ak ac.length ac) (aG : ac.length ≤ al) (hr1 : Kd.C (Kd.int .i64) w A1 l1.length l1) (aV : l1.length ≤ c1) (h : impl_SideOk.f k ab ac l1 = some r) :
  Calls Try.prog 18 #[.agg #[.int .i64 ab, .slice ak ac.length al], .slice A1 l1.length c1] w fun e w' => e = .returned (.bool r) ∧ Below w.heap.size w w' := by
 have br := Try.underlying30; have az := G.m aF; have aA := G.m aG; clear aF aG; have aH := G.m hr1; have a8 := G.m aV; clear hr1 aV; have HB := G.m (Below.refl w.heap.size w); have H : ((impl_NetOk.f k ab ac).bind fun am => (if am = true then (impl_SideOk.j0 k l1 ((l1.length : Int) != ab) ab ac) else (impl_SideOk.j0 k l1 true ab ac))) = some r := h; clear h; have aO := G.m H; clear H
 go_enter Try.func18, Try.ntmps18
 go_upto_region 1 with (first | ((with_reducible refine G.h 2 rfl ?_); (try (refine gate_guard (by rfl) ?_; dsimp only)); refine G.be 2 #[.int .i64 ab, .slice ak ac.length al] 30 ?_; intro ao hg w4 hbox hb; have n0 := G.bs HB hb; have n1 := G.m (hbox); have n2 := G.m ((by rw [hg]; exact (below_size (G.cB HB.out)) : w.heap.size ≤ ao)); have n3 := G.m ((by rw [hg]; exact (below_size (G.cB HB.out)) : w.heap.size ≤ ao)); clear HB; revert n0 n1 n2 n3; intro HB ae bn bo; clear hb hbox hg))
 (try simp only [Act.put, List.setIfInBounds_toArray, List.set_cons_zero, List.set_cons_succ])
 go_cut [16] (fun a9 wc => ∃ (kq : Nat) (ap : Bool), a9 = .bool ap ∧ Aside0 (impl_SideOk.j0 kq l1 ap ab ac = some r) ∧ Aside0 (kq ≤ k) ∧ Aside0 (wc.heap[ao]? = some (.cells #[.int .i64 ab, (.slice ak ac.length al)] 30 (0, 0))) ∧ Aside0 (Below w.heap.size w wc))
 case first =>
  have H := aO.out; clear aO; obtain ⟨am, A5, H⟩ := G.bi H; replace H : (if am = true then (impl_SideOk.j0 k l1 ((l1.length : Int) != ab) ab ac) else (impl_SideOk.j0 k l1 true ab ac)) = some r := H
  by_cases c6 : am = true
  ·subst c6; have H1 : (impl_SideOk.j0 k l1 ((l1.length : Int) != ab) ab ac) = some r := by rw [if_pos rfl] at H; exact H
   clear H; have H := H1; clear H1; have H' := G.m H; clear H; have ⟨a_, ba, bc, bd⟩ := G.d2 (w := w4) ae
   go_wp2_with (first | ((with_reducible refine G.f 45 rfl ?_); refine G.gL 8 Try.func45 #[.agg #[.int .i64 ab, .slice ak ac.length al]] ?_; (with_reducible refine (impl_NetOk.calls k ab _ _ ac true _ ?side1 ?side2 A5.out).mono ?_); (case side1 => exact G.cC (Kd.C_below az.out HB.out)); (case side2 => exact aA.out); rintro e w8 ⟨rfl, hb⟩; refine ⟨_, rfl, ?_⟩; have n0 := G.bb ae hb; have n1 := G.bs HB hb; clear ae HB; revert n0 n1; intro ae HB; (try clear hb); have ⟨bf, bh, bj, bk⟩ := G.d2 (w := w8) ae))
   go_meet
   case rel => exact ⟨_, (((l1.length : Int) != ab)), (caci), H', ⟨by first | omega | exact Nat.le_refl _⟩, ⟨G.cb ae.out⟩, ⟨G.cB HB.out⟩⟩
  ·replace c6 := Bool.eq_false_iff.mpr c6; subst c6; have H1 : (impl_SideOk.j0 k l1 true ab ac) = some r := by rw [if_neg (show ¬ (false = true) by decide)] at H; exact H
   clear H; have H := H1; clear H1; have H' := G.m H; clear H; have ⟨aW, aX, aY, aZ⟩ := G.d2 (w := w4) ae
   go_wp2_with (first | ((with_reducible refine G.f 45 rfl ?_); refine G.gL 8 Try.func45 #[.agg #[.int .i64 ab, .slice ak ac.length al]] ?_; (with_reducible refine (impl_NetOk.calls k ab _ _ ac false _ ?side1 ?side2 A5.out).mono ?_); (case side1 => exact G.cC (Kd.C_below az.out HB.out)); (case side2 => exact aA.out); rintro e bu ⟨rfl, hb⟩; refine ⟨_, rfl, ?_⟩; have n0 := G.bb ae hb; have n1 := G.bs HB hb; clear ae HB; revert n0 n1; intro ae HB; (try clear hb)))
   go_meet
   case rel => exact ⟨_, (true), (caci), H', ⟨by first | omega | exact Nat.le_refl _⟩, ⟨G.cb ae.out⟩, ⟨G.cB HB.out⟩⟩
 case rest =>
  clear aO; obtain ⟨kq, ap, rfl, HA, aI, ae, HB⟩ := hcut; cases kq with
  | zero => exact absurd HA.out (by simp [impl_SideOk.j0])
  | succ aP =>
   have H := HA.out; clear HA; simp only [impl_SideOk.j0] at H
   by_cases aE : ap = true
   ·subst aE; have H1 : (some false) = some r := by rw [if_pos rfl] at H; exact H
    clear H; have H := H1; clear H1; obtain rfl := Option.some.inj H
    go_wp2
    go_ret
    exact ⟨cacj, G.cB HB.out⟩
   ·replace aE := Bool.eq_false_iff.mpr aE; subst aE; have H1 : (impl_SideOk.l0 aP l1 l1 (l1.length : Int) 0 ab ac) = some r := by rw [if_neg (show ¬ (false = true) by decide)] at H; exact H
    clear H; have H := H1; clear H1; have H' := G.m H; clear H
    go_wp2
    go_loopg [19] aP (fun kq bl w' => ∃ (aa : Int), bl = .int .i64 aa ∧ Aside0 (impl_SideOk.l0 kq l1 l1 (l1.length : Int) aa ab ac = some r) ∧ Aside0 (kq ≤ aP) ∧ Aside0 (w'.heap[ao]? = some (.cells #[.int .i64 ab, (.slice ak ac.length al)] 30 (0, 0))) ∧ Aside0 (Below w.heap.size w w'))
    case atStart => exact ⟨(0), (caci), H', ⟨Nat.le_refl _⟩, ⟨G.cb ae.out⟩, ⟨G.cB HB.out⟩⟩
    case round =>
     clear H'; (try clear aE); obtain ⟨aa, rfl, HA, aJ, ae, HB⟩ := hrel; cases gk with
     | zero => exact absurd HA.out (by simp [impl_SideOk.l0])
     | succ k2 =>
      have H := HA.out; clear HA; simp only [impl_SideOk.l0] at H
      by_cases ax : aa < (l1.length : Int)
      ·rw [if_pos ax] at H; have aQ : decide (aa < (l1.length : Int)) = true := decide_eq_true ax; clear ax
       by_cases aK : 0 ≤ aa
       ·rw [if_pos aK] at H; have bp : decide (0 ≤ aa) = true := decide_eq_true aK; clear aK
        by_cases aL : aa < (l1.length : Int)
        ·rw [if_pos aL] at H; have bq : decide (aa < (l1.length : Int)) = true := decide_eq_true aL; clear aL
         by_cases au : (rd l1 aa) = 0
         ·rw [if_pos au] at H; have aR : ((rd l1 aa) == 0) = true := beq_iff_eq.mpr au; have aS : ((rd l1 aa) != 0) = false := bne_eq_false_iff_eq.mpr au; clear au; have H' := G.m H; clear H; have ag : 0 ≤ (aa : Int) := of_decide_eq_true (G.asm); have ah : aa < (l1.length : Int) := of_decide_eq_true (G.asm); obtain ⟨aM, av, af⟩ := Kd.at_int aH.out aa ag ah; cases av; replace af := G.hx HB af; replace ag := eq_true ag; replace ah := eq_true ah
          go_wp2
          go_roundg k2
          case measure => have := aI.out; have := aJ.out; omega
          case rel => exact ⟨(wrap64 (aa + 1)), (caci), H', ⟨by have := aI.out; have := aJ.out; omega⟩, ⟨G.cb ae.out⟩, ⟨G.cB HB.out⟩⟩
         ·rw [if_neg au] at H; have aR : ((rd l1 aa) == 0) = false := beq_eq_false_iff_ne.mpr au; have aS : ((rd l1 aa) != 0) = true := bne_iff_ne.mpr au
          by_cases aw : (rd l1 aa) = 1
          ·rw [if_pos aw] at H; have aT : ((rd l1 aa) == 1) = true := beq_iff_eq.mpr aw; have aU : ((rd l1 aa) != 1) = false := bne_eq_false_iff_eq.mpr aw; clear aw; have H' := G.m H; clear H; have ag : 0 ≤ (aa : Int) := of_decide_eq_true (G.asm); have ah : aa < (l1.length : Int) := of_decide_eq_true (G.asm); obtain ⟨aM, av, af⟩ := Kd.at_int aH.out aa ag ah; cases av; replace af := G.hx HB af; replace ag := eq_true ag; replace ah := eq_true ah
           go_wp2
           go_roundg k2
           case measure => have := aI.out; have := aJ.out; omega
           case rel => exact ⟨(wrap64 (aa + 1)), (caci), H', ⟨by have := aI.out; have := aJ.out; omega⟩, ⟨G.cb ae.out⟩, ⟨G.cB HB.out⟩⟩
          ·rw [if_neg aw] at H; have aT : ((rd l1 aa) == 1) = false := beq_eq_false_iff_ne.mpr aw; have aU : ((rd l1 aa) != 1) = true := bne_iff_ne.mpr aw; obtain rfl := Option.some.inj H; have ag : 0 ≤ (aa : Int) := of_decide_eq_true (G.asm); have ah : aa < (l1.length : Int) := of_decide_eq_true (G.asm); obtain ⟨aM, av, af⟩ := Kd.at_int aH.out aa ag ah; cases av; replace af := G.hx HB af; replace ag := eq_true ag; replace ah := eq_true ah
           go_wp2
           go_ret
           exact ⟨cacj, G.cB HB.out⟩
        ·rw [if_neg aL] at H; exact absurd H (by simp)
       ·rw [if_neg aK] at H; exact absurd H (by simp)
      ·rw [if_neg ax] at H; have aQ : decide (aa < (l1.length : Int)) = false := decide_eq_false ax; clear ax; obtain ⟨ay, bm, H⟩ := G.bi H; replace H : (some ay) = some r := H; obtain rfl := Option.some.inj H; have ⟨a3, a4, a5, a6⟩ := G.d2 (w := wr) ae
       go_wp2_with (first | ((with_reducible refine G.f 46 rfl ?_); refine G.gL 32 Try.func46 #[.agg #[.int .i64 ab, .slice ak ac.length al], .slice A1 l1.length c1] ?_; (with_reducible refine (impl_Net_fine.calls k2 ab _ _ ac _ _ l1 ay _ ?side1 ?side2 ?side3 ?side4 bm.out).mono ?_); (case side1 => exact G.cC (Kd.C_below az.out HB.out)); (case side2 => exact aA.out); (case side3 => exact G.cC (Kd.C_below aH.out HB.out)); (case side4 => exact a8.out); rintro e bv ⟨rfl, hb⟩; refine ⟨_, rfl, ?_⟩; have n0 := G.bb ae hb; have n1 := G.bs HB hb; clear ae HB; revert n0 n1; intro ae HB; (try clear hb)))
       go_ret
       exact ⟨cacj, G.cB HB.out⟩

end Go.Proofs.Ytddadihobjinhaa.P
