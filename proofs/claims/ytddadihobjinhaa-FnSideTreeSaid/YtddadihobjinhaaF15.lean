-- Printed by a program of this session (mp.py, over the kit's print). Not trusted: Lean checks it.
import Derived.Test.YtddadihobjinhaaF0
import Derived.Test.YtddadihobjinhaaF2
namespace Go.Proofs.Ytddadihobjinhaa.P
open Go.RowKit Go.Proofs.YtddadihobjinhaaW.PrintWords Go.Proofs.YtddadihobjinhaaW.PrintLast Go.Proofs.YtddadihobjinhaaW.PrintMore
attribute [local go_sem] max2_int min2_int max_two min_two max_three min_three max_four min_four   -- for this text's walks alone
set_option linter.unusedVariables false
set_option linter.unusedSimpArgs false

theorem cabj {p : Prop} (h : p := by first | rfl | (simp [errW_none, errW_some] <;> rfl) | (simp [*, errW_none, errW_some] <;> rfl)) : p := h
theorem cabh {p : Prop} (h : p := by first | rfl | (simp; done) | (simp [*]; done)) : p := h
theorem cabi {p : Prop} (h : p := by rw [hg]; exact (below_size (G.cB HB.out))) : p := h
/-! ### spec_SideOk: function 15 -/
mutual
def spec_SideOk.j0 : Nat → List Int → Bool → Int → List (S53) → Option (Bool)
 | 0, _, _, _, _ => none
 | k + 1, x1, bT, aj, af => if bT = true then (some false) else (spec_SideOk.l0 k x1 0 aj af)
def spec_SideOk.l0 : Nat → List Int → Int → Int → List (S53) → Option (Bool)
 | 0, _, _, _, _ => none
 | k + 1, x1, x5, aj, af => if x5 < (x1.length : Int) then (if 0 ≤ x5 then ((spec_l6In.f (rd x1 x5) 0 1).bind fun aP => (if aP = true then (spec_SideOk.l0 k x1 (wrap64 (x5 + 1)) aj af) else (some false))) else (none)) else (spec_SideOk.l1 k x1 0 aj af)
def spec_SideOk.l1 : Nat → List Int → Int → Int → List (S53) → Option (Bool)
 | 0, _, _, _, _ => none
 | k + 1, x1, x6, aj, af => if x6 < (af.length : Int) then (if 0 ≤ x6 then (if 0 ≤ ((rd_T53 af x6).f0) then (if ((rd_T53 af x6).f0) < (x1.length : Int) then (if 0 ≤ ((rd_T53 af x6).f1) then (if ((rd_T53 af x6).f1) < (x1.length : Int) then (if (rd x1 ((rd_T53 af x6).f0)) = (rd x1 ((rd_T53 af x6).f1)) then (some false) else (spec_SideOk.l1 k x1 (wrap64 (x6 + 1)) aj af)) else (none)) else (none)) else (none)) else (none)) else (none)) else (some true)
end
def spec_SideOk.f (k : Nat) (ae : Int) (aa : List (S53)) (l1 : List Int) : Option (Bool) := (spec_NetOk.f k ae aa).bind fun aI => (if aI = true then (spec_SideOk.j0 k l1 ((l1.length : Int) != ae) ae aa) else (spec_SideOk.j0 k l1 true ae aa))
theorem spec_SideOk.mono_l : ∀ k, (∀ y0 y1 y2 y3, LeO (spec_SideOk.j0 k y0 y1 y2 y3) (spec_SideOk.j0 (k + 1) y0 y1 y2 y3)) ∧ (∀ y0 y1 y2 y3, LeO (spec_SideOk.l0 k y0 y1 y2 y3) (spec_SideOk.l0 (k + 1) y0 y1 y2 y3)) ∧ (∀ y0 y1 y2 y3, LeO (spec_SideOk.l1 k y0 y1 y2 y3) (spec_SideOk.l1 (k + 1) y0 y1 y2 y3))
 | 0 => ⟨fun _ _ _ _ r h => by simp [spec_SideOk.j0] at h, fun _ _ _ _ r h => by simp [spec_SideOk.l0] at h, fun _ _ _ _ r h => by simp [spec_SideOk.l1] at h⟩
 | k + 1 => by
  obtain ⟨aU, aV, aW⟩ := spec_SideOk.mono_l k; refine ⟨?_, ?_, ?_⟩ <;> intros
  all_goals first | unfold spec_SideOk.j0 | unfold spec_SideOk.l0 | unfold spec_SideOk.l1
  repeat' first | (with_reducible first | exact aU _ _ _ _ | exact aV _ _ _ _ | exact aW _ _ _ _ | exact spec_NetOk.mono _ _ _ | exact LeO.refl _ | exact LeO.none _ | refine LeO.ite ?_ ?_ | refine LeO.bind ?_ (fun _ => ?_)) | exact aU _ _ _ _ | exact aV _ _ _ _ | exact aW _ _ _ _ | exact spec_NetOk.mono _ _ _ | exact LeO.none _ | refine LeO.ite ?_ ?_ | refine LeO.bind ?_ (fun _ => ?_)
theorem spec_SideOk.mono : ∀ a0 a1 a2 k, LeO (spec_SideOk.f k a0 a1 a2) (spec_SideOk.f (k + 1) a0 a1 a2) := by
 intro a0 a1 a2 k; obtain ⟨aU, aV, aW⟩ := spec_SideOk.mono_l k; unfold spec_SideOk.f
 repeat' first | (with_reducible first | exact aU _ _ _ _ | exact aV _ _ _ _ | exact aW _ _ _ _ | exact spec_NetOk.mono _ _ _ | exact LeO.refl _ | exact LeO.none _ | refine LeO.ite ?_ ?_ | refine LeO.bind ?_ (fun _ => ?_)) | exact aU _ _ _ _ | exact aV _ _ _ _ | exact aW _ _ _ _ | exact spec_NetOk.mono _ _ _ | exact LeO.none _ | refine LeO.ite ?_ ?_ | refine LeO.bind ?_ (fun _ => ?_)
set_option maxHeartbeats 8000000 in
set_option maxRecDepth 100000 in
theorem spec_SideOk.calls (k : Nat) (ae : Int) (av : Option Addr) (aw : Nat) (aa : List (S53)) (A1 : Option Addr) (c1 : Nat) (l1 : List Int) (r : Bool) (w : World) (a_ : Kd.C k53 w av aa.length aa) (ba : aa.length ≤ aw) (hr1 : Kd.C (Kd.int .i64) w A1 l1.length l1) (bA : l1.length ≤ c1) (h : spec_SideOk.f k ae aa l1 = some r) :
  Calls Try.prog 15 #[.agg #[.int .i64 ae, .slice av aa.length aw], .slice A1 l1.length c1] w fun e w' => e = .returned (.bool r) ∧ Below w.heap.size w w' := by
 have b6 := Try.underlying30; have ai := G.m a_; have ax := G.m ba; clear a_ ba; have aL := G.m hr1; have b7 := G.m bA; clear hr1 bA; have HB := G.m (Below.refl w.heap.size w); have H : ((spec_NetOk.f k ae aa).bind fun aI => (if aI = true then (spec_SideOk.j0 k l1 ((l1.length : Int) != ae) ae aa) else (spec_SideOk.j0 k l1 true ae aa))) = some r := h; clear h; have br := G.m H; clear H
 go_enter Try.func15, Try.ntmps15
 go_upto_region 1 with (first | ((with_reducible refine G.h 2 rfl ?_); (try (refine gate_guard (by rfl) ?_; dsimp only)); refine G.be 2 #[.int .i64 ae, .slice av aa.length aw] 30 ?_; intro ah hg w4 hbox hb; have n0 := G.bs HB hb; have n1 := G.m (hbox); have n2 := G.m (cabi : w.heap.size ≤ ah); have n3 := G.m (cabi : w.heap.size ≤ ah); clear HB; revert n0 n1 n2 n3; intro HB ac bc bd; clear hb hbox hg))
 repeat (go_quiet (first | ((with_reducible refine G.h 2 rfl ?_); (try (refine gate_guard (by rfl) ?_; dsimp only)); refine G.be 2 #[.int .i64 ae, .slice av aa.length aw] 30 ?_; intro ah hg w4 hbox hb; have n0 := G.bs HB hb; have n1 := G.m (hbox); have n2 := G.m (cabi : w.heap.size ≤ ah); have n3 := G.m (cabi : w.heap.size ≤ ah); clear HB; revert n0 n1 n2 n3; intro HB ac bc bd; clear hb hbox hg)); go_upto_region 1 with (first | ((with_reducible refine G.h 2 rfl ?_); (try (refine gate_guard (by rfl) ?_; dsimp only)); refine G.be 2 #[.int .i64 ae, .slice av aa.length aw] 30 ?_; intro ah hg w4 hbox hb; have n0 := G.bs HB hb; have n1 := G.m (hbox); have n2 := G.m (cabi : w.heap.size ≤ ah); have n3 := G.m (cabi : w.heap.size ≤ ah); clear HB; revert n0 n1 n2 n3; intro HB ac bc bd; clear hb hbox hg)))
 (try simp only [Act.put, List.setIfInBounds_toArray, List.set_cons_zero, List.set_cons_succ])
 go_cut [16] (fun bU wc => ∃ (kq : Nat) (aJ : Bool), bU = .bool aJ ∧ Aside0 (spec_SideOk.j0 kq l1 aJ ae aa = some r) ∧ Aside0 (kq ≤ k) ∧ Aside0 (wc.heap[ah]? = some (.cells #[.int .i64 ae, (.slice av aa.length aw)] 30 (0, 0))) ∧ Aside0 (Below w.heap.size w wc))
 case first =>
  have H := br.out; clear br; obtain ⟨aI, A5, H⟩ := G.bi H; replace H : (if aI = true then (spec_SideOk.j0 k l1 ((l1.length : Int) != ae) ae aa) else (spec_SideOk.j0 k l1 true ae aa)) = some r := H
  by_cases c6 : aI = true
  ·subst c6; have H1 : (spec_SideOk.j0 k l1 ((l1.length : Int) != ae) ae aa) = some r := by rw [if_pos rfl] at H; exact H
   clear H; have H := H1; clear H1; have H' := G.m H; clear H; have ⟨bV, bW, bX, bY⟩ := G.d2 (w := w4) ac
   go_wp2_with (first | (go_at_call 32; (with_reducible refine (spec_NetOk.calls k ae _ _ aa true _ ?side1 ?side2 A5.out).mono ?_); (case side1 => exact G.cC (Kd.C_below ai.out HB.out)); (case side2 => exact ax.out); rintro e w8 ⟨rfl, hb⟩; have n0 := G.bb ac hb; have n1 := G.bs HB hb; clear ac HB; revert n0 n1; intro ac HB; (try clear hb); have ⟨aX, aY, aZ, a3⟩ := G.d2 (w := w8) ac))
   repeat (go_quiet (first | (go_at_call 32; (with_reducible refine (spec_NetOk.calls k ae _ _ aa true _ ?side1 ?side2 A5.out).mono ?_); (case side1 => exact G.cC (Kd.C_below ai.out HB.out)); (case side2 => exact ax.out); rintro e w8 ⟨rfl, hb⟩; have n0 := G.bb ac hb; have n1 := G.bs HB hb; clear ac HB; revert n0 n1; intro ac HB; (try clear hb); have ⟨aX, aY, aZ, a3⟩ := G.d2 (w := w8) ac)); try go_wp2_with (first | (go_at_call 32; (with_reducible refine (spec_NetOk.calls k ae _ _ aa true _ ?side1 ?side2 A5.out).mono ?_); (case side1 => exact G.cC (Kd.C_below ai.out HB.out)); (case side2 => exact ax.out); rintro e w8 ⟨rfl, hb⟩; have n0 := G.bb ac hb; have n1 := G.bs HB hb; clear ac HB; revert n0 n1; intro ac HB; (try clear hb); have ⟨aX, aY, aZ, a3⟩ := G.d2 (w := w8) ac)))
   go_meet
   case rel => exact ⟨_, (((l1.length : Int) != ae)), (cabh), H', ⟨by first | omega | exact Nat.le_refl _⟩, ⟨G.cb ac.out⟩, ⟨G.cB HB.out⟩⟩
  ·replace c6 := Bool.eq_false_iff.mpr c6; subst c6; have H1 : (spec_SideOk.j0 k l1 true ae aa) = some r := by rw [if_neg (show ¬ (false = true) by decide)] at H; exact H
   clear H; have H := H1; clear H1; have H' := G.m H; clear H; have ⟨bD, bE, bF, bG⟩ := G.d2 (w := w4) ac
   go_wp2_with (first | (go_at_call 32; (with_reducible refine (spec_NetOk.calls k ae _ _ aa false _ ?side1 ?side2 A5.out).mono ?_); (case side1 => exact G.cC (Kd.C_below ai.out HB.out)); (case side2 => exact ax.out); rintro e bB ⟨rfl, hb⟩; have n0 := G.bb ac hb; have n1 := G.bs HB hb; clear ac HB; revert n0 n1; intro ac HB; (try clear hb)))
   repeat (go_quiet (first | (go_at_call 32; (with_reducible refine (spec_NetOk.calls k ae _ _ aa false _ ?side1 ?side2 A5.out).mono ?_); (case side1 => exact G.cC (Kd.C_below ai.out HB.out)); (case side2 => exact ax.out); rintro e bB ⟨rfl, hb⟩; have n0 := G.bb ac hb; have n1 := G.bs HB hb; clear ac HB; revert n0 n1; intro ac HB; (try clear hb))); try go_wp2_with (first | (go_at_call 32; (with_reducible refine (spec_NetOk.calls k ae _ _ aa false _ ?side1 ?side2 A5.out).mono ?_); (case side1 => exact G.cC (Kd.C_below ai.out HB.out)); (case side2 => exact ax.out); rintro e bB ⟨rfl, hb⟩; have n0 := G.bb ac hb; have n1 := G.bs HB hb; clear ac HB; revert n0 n1; intro ac HB; (try clear hb))))
   go_meet
   case rel => exact ⟨_, (true), (cabh), H', ⟨by first | omega | exact Nat.le_refl _⟩, ⟨G.cb ac.out⟩, ⟨G.cB HB.out⟩⟩
 case rest =>
  clear br; obtain ⟨kq, aJ, rfl, HA, bf, ac, HB⟩ := hcut; cases kq with
  | zero => exact absurd HA.out (by simp [spec_SideOk.j0])
  | succ bu =>
   have H := HA.out; clear HA; simp only [spec_SideOk.j0] at H
   by_cases a4 : aJ = true
   ·subst a4; have H1 : (some false) = some r := by rw [if_pos rfl] at H; exact H
    clear H; have H := H1; clear H1; obtain rfl := Option.some.inj H
    go_wp2
    repeat (go_quiet (fail); try go_wp2)
    go_ret
    exact ⟨cabj, G.cB HB.out⟩
   ·replace a4 := Bool.eq_false_iff.mpr a4; subst a4; have H1 : (spec_SideOk.l0 bu l1 0 ae aa) = some r := by rw [if_neg (show ¬ (false = true) by decide)] at H; exact H
    clear H; have H := H1; clear H1; have H' := G.m H; clear H
    go_wp2
    repeat (go_quiet (fail); try go_wp2)
    go_loopg [5] bu (fun kq v5 w' => ∃ (ag : Int), v5 = .int .i64 ag ∧ Aside0 (spec_SideOk.l0 kq l1 ag ae aa = some r) ∧ Aside0 (kq ≤ bu) ∧ Aside0 (w'.heap[ah]? = some (.cells #[.int .i64 ae, (.slice av aa.length aw)] 30 (0, 0))) ∧ Aside0 (Below w.heap.size w w'))
    case atStart => exact ⟨(0), (cabh), H', ⟨Nat.le_refl _⟩, ⟨G.cb ac.out⟩, ⟨G.cB HB.out⟩⟩
    case round =>
     clear H'; (try clear a4); obtain ⟨ag, rfl, HA, bh, ac, HB⟩ := hrel; cases gk with
     | zero => exact absurd HA.out (by simp [spec_SideOk.l0])
     | succ k2 =>
      have H := HA.out; clear HA; simp only [spec_SideOk.l0] at H
      by_cases aM : ag < (l1.length : Int)
      ·rw [if_pos aM] at H; have bj : decide (ag < (l1.length : Int)) = true := decide_eq_true aM; clear aM
       by_cases bk : 0 ≤ ag
       ·rw [if_pos bk] at H; have bZ : decide (0 ≤ ag) = true := decide_eq_true bk; clear bk; obtain ⟨aP, aN, H⟩ := G.bi H; replace H : (if aP = true then (spec_SideOk.l0 k2 l1 (wrap64 (ag + 1)) ae aa) else (some false)) = some r := H
        by_cases bl : aP = true
        ·subst bl; have H1 : (spec_SideOk.l0 k2 l1 (wrap64 (ag + 1)) ae aa) = some r := by rw [if_pos rfl] at H; exact H
         clear H; have H := H1; clear H1; have H' := G.m H; clear H; have ay : 0 ≤ (ag : Int) := of_decide_eq_true (G.asm); have az : ag < (l1.length : Int) := of_decide_eq_true (G.asm); obtain ⟨bv, a5, ak⟩ := Kd.at_int aL.out ag ay az; cases a5; replace ak := G.hx HB ak; replace ay := eq_true ay; replace az := eq_true az
         go_wp2_with (first | (go_at_call 43; (with_reducible refine (spec_l6In.calls (rd l1 ag) 0 1 true _ aN.out).mono ?_); rintro e w' ⟨rfl, ⟨nd, rfl⟩⟩; (try first | exact ⟨rfl, _, World.drewN_drewN _ _ _⟩ | exact ⟨rfl, _, Eq.trans (World.drewN_drewN _ _ _) (congrArg (World.drewN _) (Nat.add_assoc _ _ _))⟩)))
         repeat (go_quiet (first | (go_at_call 43; (with_reducible refine (spec_l6In.calls (rd l1 ag) 0 1 true _ aN.out).mono ?_); rintro e w' ⟨rfl, ⟨nd, rfl⟩⟩; (try first | exact ⟨rfl, _, World.drewN_drewN _ _ _⟩ | exact ⟨rfl, _, Eq.trans (World.drewN_drewN _ _ _) (congrArg (World.drewN _) (Nat.add_assoc _ _ _))⟩))); try go_wp2_with (first | (go_at_call 43; (with_reducible refine (spec_l6In.calls (rd l1 ag) 0 1 true _ aN.out).mono ?_); rintro e w' ⟨rfl, ⟨nd, rfl⟩⟩; (try first | exact ⟨rfl, _, World.drewN_drewN _ _ _⟩ | exact ⟨rfl, _, Eq.trans (World.drewN_drewN _ _ _) (congrArg (World.drewN _) (Nat.add_assoc _ _ _))⟩))))
         go_roundg k2
         case measure => have := bf.out; have := bh.out; omega
         case rel => exact ⟨(wrap64 (ag + 1)), (cabh), H', ⟨by have := bf.out; have := bh.out; omega⟩, ⟨G.cb ac.out⟩, ⟨G.cB HB.out⟩⟩
        ·replace bl := Bool.eq_false_iff.mpr bl; subst bl; have H1 : (some false) = some r := by rw [if_neg (show ¬ (false = true) by decide)] at H; exact H
         clear H; have H := H1; clear H1; obtain rfl := Option.some.inj H; have ay : 0 ≤ (ag : Int) := of_decide_eq_true (G.asm); have az : ag < (l1.length : Int) := of_decide_eq_true (G.asm); obtain ⟨bv, a5, ak⟩ := Kd.at_int aL.out ag ay az; cases a5; replace ak := G.hx HB ak; replace ay := eq_true ay; replace az := eq_true az
         go_wp2_with (first | (go_at_call 43; (with_reducible refine (spec_l6In.calls (rd l1 ag) 0 1 false _ aN.out).mono ?_); rintro e w' ⟨rfl, ⟨nd, rfl⟩⟩; (try first | exact ⟨rfl, _, World.drewN_drewN _ _ _⟩ | exact ⟨rfl, _, Eq.trans (World.drewN_drewN _ _ _) (congrArg (World.drewN _) (Nat.add_assoc _ _ _))⟩)))
         repeat (go_quiet (first | (go_at_call 43; (with_reducible refine (spec_l6In.calls (rd l1 ag) 0 1 false _ aN.out).mono ?_); rintro e w' ⟨rfl, ⟨nd, rfl⟩⟩; (try first | exact ⟨rfl, _, World.drewN_drewN _ _ _⟩ | exact ⟨rfl, _, Eq.trans (World.drewN_drewN _ _ _) (congrArg (World.drewN _) (Nat.add_assoc _ _ _))⟩))); try go_wp2_with (first | (go_at_call 43; (with_reducible refine (spec_l6In.calls (rd l1 ag) 0 1 false _ aN.out).mono ?_); rintro e w' ⟨rfl, ⟨nd, rfl⟩⟩; (try first | exact ⟨rfl, _, World.drewN_drewN _ _ _⟩ | exact ⟨rfl, _, Eq.trans (World.drewN_drewN _ _ _) (congrArg (World.drewN _) (Nat.add_assoc _ _ _))⟩))))
         go_ret
         exact ⟨cabj, G.cB HB.out⟩
       ·rw [if_neg bk] at H; exact absurd H (by simp)
      ·rw [if_neg aM] at H; have bj : decide (ag < (l1.length : Int)) = false := decide_eq_false aM; clear aM; have H' := G.m H; clear H
       go_wp2
       repeat (go_quiet (fail); try go_wp2)
       go_loopg [6] k2 (fun kq v6 w' => ∃ (ab : Int), v6 = .int .i64 ab ∧ Aside0 (spec_SideOk.l1 kq l1 ab ae aa = some r) ∧ Aside0 (kq ≤ k2) ∧ Aside0 (w'.heap[ah]? = some (.cells #[.int .i64 ae, (.slice av aa.length aw)] 30 (0, 0))) ∧ Aside0 (Below w.heap.size w w'))
       case atStart => exact ⟨(0), (cabh), H', ⟨Nat.le_refl _⟩, ⟨G.cb ac.out⟩, ⟨G.cB HB.out⟩⟩
       case round =>
        clear H'; (try clear bj); obtain ⟨ab, rfl, HA, bC, ac, HB⟩ := hrel; cases gk with
        | zero => exact absurd HA.out (by simp [spec_SideOk.l1])
        | succ k3 =>
         have H := HA.out; clear HA; simp only [spec_SideOk.l1] at H
         by_cases aO : ab < (aa.length : Int)
         ·rw [if_pos aO] at H; have bw : decide (ab < (aa.length : Int)) = true := decide_eq_true aO; clear aO
          by_cases bm : 0 ≤ ab
          ·rw [if_pos bm] at H; have b1 : decide (0 ≤ ab) = true := decide_eq_true bm; clear bm
           by_cases bn : 0 ≤ ((rd_T53 aa ab).f0)
           ·rw [if_pos bn] at H; have b2 : decide (0 ≤ ((rd_T53 aa ab).f0)) = true := decide_eq_true bn; clear bn
            by_cases bo : ((rd_T53 aa ab).f0) < (l1.length : Int)
            ·rw [if_pos bo] at H; have b3 : decide (((rd_T53 aa ab).f0) < (l1.length : Int)) = true := decide_eq_true bo; clear bo
             by_cases bp : 0 ≤ ((rd_T53 aa ab).f1)
             ·rw [if_pos bp] at H; have b4 : decide (0 ≤ ((rd_T53 aa ab).f1)) = true := decide_eq_true bp; clear bp
              by_cases bq : ((rd_T53 aa ab).f1) < (l1.length : Int)
              ·rw [if_pos bq] at H; have b5 : decide (((rd_T53 aa ab).f1) < (l1.length : Int)) = true := decide_eq_true bq; clear bq
               by_cases aK : (rd l1 ((rd_T53 aa ab).f0)) = (rd l1 ((rd_T53 aa ab).f1))
               ·rw [if_pos aK] at H; have bx : ((rd l1 ((rd_T53 aa ab).f0)) == (rd l1 ((rd_T53 aa ab).f1))) = true := beq_iff_eq.mpr aK; have bz : ((rd l1 ((rd_T53 aa ab).f0)) != (rd l1 ((rd_T53 aa ab).f1))) = false := bne_eq_false_iff_eq.mpr aK; clear aK; obtain rfl := Option.some.inj H; have ⟨bH, bI, bJ, bK⟩ := G.d2 (w := wr) ac; have aA : 0 ≤ (ab : Int) := of_decide_eq_true (G.asm); have aB : ab < (aa.length : Int) := of_decide_eq_true (G.asm); obtain ⟨aQ, a6, al, am⟩ := at_T53 ai.out ab aA aB; cases a6; replace al := G.hx HB al; replace am := G.hx HB am; replace aA := eq_true aA; replace aB := eq_true aB; have aC : 0 ≤ (((rd_T53 aa ab).f0) : Int) := of_decide_eq_true (G.asm); have aD : ((rd_T53 aa ab).f0) < (l1.length : Int) := of_decide_eq_true (G.asm); obtain ⟨aR, a7, ao⟩ := Kd.at_int aL.out ((rd_T53 aa ab).f0) aC aD; cases a7; replace ao := G.hx HB ao; replace aC := eq_true aC; replace aD := eq_true aD; have aE : 0 ≤ (ab : Int) := of_decide_eq_true (G.asm); have aF : ab < (aa.length : Int) := of_decide_eq_true (G.asm); obtain ⟨aS, a8, ap, aq⟩ := at_T53 ai.out ab aE aF; obtain rfl : aQ = aS := (by injection a8); replace ap := G.hx HB ap; replace aq := G.hx HB aq; replace aE := eq_true aE; replace aF := eq_true aF; have aG : 0 ≤ (((rd_T53 aa ab).f1) : Int) := of_decide_eq_true (G.asm); have aH : ((rd_T53 aa ab).f1) < (l1.length : Int) := of_decide_eq_true (G.asm); obtain ⟨aT, a9, au⟩ := Kd.at_int aL.out ((rd_T53 aa ab).f1) aG aH; obtain rfl : aR = aT := (by injection a9); replace au := G.hx HB au; replace aG := eq_true aG; replace aH := eq_true aH
                go_wp2
                repeat (go_quiet (fail); try go_wp2)
                go_ret
                exact ⟨cabj, G.cB HB.out⟩
               ·rw [if_neg aK] at H; have bx : ((rd l1 ((rd_T53 aa ab).f0)) == (rd l1 ((rd_T53 aa ab).f1))) = false := beq_eq_false_iff_ne.mpr aK; have bz : ((rd l1 ((rd_T53 aa ab).f0)) != (rd l1 ((rd_T53 aa ab).f1))) = true := bne_iff_ne.mpr aK; have H' := G.m H; clear H; have ⟨bL, bM, bN, bO⟩ := G.d2 (w := wr) ac; have aA : 0 ≤ (ab : Int) := of_decide_eq_true (G.asm); have aB : ab < (aa.length : Int) := of_decide_eq_true (G.asm); obtain ⟨aQ, a6, al, am⟩ := at_T53 ai.out ab aA aB; cases a6; replace al := G.hx HB al; replace am := G.hx HB am; replace aA := eq_true aA; replace aB := eq_true aB; have aC : 0 ≤ (((rd_T53 aa ab).f0) : Int) := of_decide_eq_true (G.asm); have aD : ((rd_T53 aa ab).f0) < (l1.length : Int) := of_decide_eq_true (G.asm); obtain ⟨aR, a7, ao⟩ := Kd.at_int aL.out ((rd_T53 aa ab).f0) aC aD; cases a7; replace ao := G.hx HB ao; replace aC := eq_true aC; replace aD := eq_true aD; have aE : 0 ≤ (ab : Int) := of_decide_eq_true (G.asm); have aF : ab < (aa.length : Int) := of_decide_eq_true (G.asm); obtain ⟨aS, a8, ap, aq⟩ := at_T53 ai.out ab aE aF; obtain rfl : aQ = aS := (by injection a8); replace ap := G.hx HB ap; replace aq := G.hx HB aq; replace aE := eq_true aE; replace aF := eq_true aF; have aG : 0 ≤ (((rd_T53 aa ab).f1) : Int) := of_decide_eq_true (G.asm); have aH : ((rd_T53 aa ab).f1) < (l1.length : Int) := of_decide_eq_true (G.asm); obtain ⟨aT, a9, au⟩ := Kd.at_int aL.out ((rd_T53 aa ab).f1) aG aH; obtain rfl : aR = aT := (by injection a9); replace au := G.hx HB au; replace aG := eq_true aG; replace aH := eq_true aH
                go_wp2
                repeat (go_quiet (fail); try go_wp2)
                go_roundg k3
                case measure => have := bf.out; have := bh.out; have := bC.out; omega
                case rel => exact ⟨(wrap64 (ab + 1)), (cabh), H', ⟨by have := bf.out; have := bh.out; have := bC.out; omega⟩, ⟨G.cb ac.out⟩, ⟨G.cB HB.out⟩⟩
              ·rw [if_neg bq] at H; exact absurd H (by simp)
             ·rw [if_neg bp] at H; exact absurd H (by simp)
            ·rw [if_neg bo] at H; exact absurd H (by simp)
           ·rw [if_neg bn] at H; exact absurd H (by simp)
          ·rw [if_neg bm] at H; exact absurd H (by simp)
         ·rw [if_neg aO] at H; have bw : decide (ab < (aa.length : Int)) = false := decide_eq_false aO; clear aO; obtain rfl := Option.some.inj H; have ⟨bP, bQ, bR, bS⟩ := G.d2 (w := wr) ac
          go_wp2
          repeat (go_quiet (fail); try go_wp2)
          go_ret
          exact ⟨cabj, G.cB HB.out⟩

end Go.Proofs.Ytddadihobjinhaa.P
