-- Printed by a program of this session (mp.py, over the kit's print). Not trusted: Lean checks it.
import Derived.Test.YtjkeagcenmmknaaDoorF0
import Derived.Test.YtjkeagcenmmknaaDoorF2
import Derived.Test.YtjkeagcenmmknaaDoorF5
import Derived.Test.YtjkeagcenmmknaaDoorF14
namespace Go.Proofs.YtjkeagcenmmknaaDoor.P
open Go.RowKit Go.Proofs.YtjkeagcenmmknaaDoorW.PrintWords Go.Proofs.YtjkeagcenmmknaaDoorW.PrintLast Go.Proofs.YtjkeagcenmmknaaDoorW.PrintMore
attribute [local go_sem] max2_int min2_int max_two min_two max_three min_three max_four min_four   -- for this text's walks alone
set_option linter.unusedVariables false
set_option linter.unusedSimpArgs false

theorem cad0 {p : Prop} (h : p := by rw [hg]; exact Nat.ne_of_lt (blk_lt (g := ao) (o := .cells #[.int .i64 ab, .slice au aa.length ap] 29 (0, 0)) (G.cb ac.out))) : p := h
theorem cad1 {p : Prop} (h : p := by rw [hg]; exact Nat.ne_of_gt (blk_lt (g := ao) (o := .cells #[.int .i64 ab, .slice au aa.length ap] 29 (0, 0)) (G.cb ac.out))) : p := h
theorem cadZ {p : Prop} (h : p := by first | rfl | (simp; done) | (simp [*]; done)) : p := h
theorem cadY {p : Prop} (h : p := by rw [hg]; exact (below_size (G.cB HB.out))) : p := h
/-! ### spec_NetWithout: function 77 -/
def spec_NetWithout.l0 : Nat → Int → Int → Int → List (S51) → Int → List (S51) → Option (Int × (List (S51)))
 | 0, _, _, _, _, _, _ => none
 | k + 1, x1, x6, bx, aC, a_, aX => if x6 < (aC.length : Int) then (if 0 ≤ x6 then (if ((rd_T51 aC x6).f0) = x1 then (spec_NetWithout.l0 k x1 (wrap64 (x6 + 1)) bx aC a_ aX) else (if ((rd_T51 aC x6).f1) = x1 then (spec_NetWithout.l0 k x1 (wrap64 (x6 + 1)) bx aC a_ aX) else (if aX.length < 8796093022208 then (spec_NetWithout.l0 k x1 (wrap64 (x6 + 1)) bx aC a_ (aX ++ [(⟨(rd_T51 aC x6).f0, (rd_T51 aC x6).f1⟩ : S51)])) else (none)))) else (none)) else (some (a_, aX))
def spec_NetWithout.f (k : Nat) (ab : Int) (aa : List (S51)) (a1 : Int) : Option (Int × (List (S51))) := (spec_l1Knot.f k ab aa a1).bind fun bz => (if bz = true then (spec_NetWithout.l0 k a1 0 ab aa ab ([] : List (S51))) else (some (0, ([] : List (S51)))))
theorem spec_NetWithout.mono_l : ∀ k, (∀ y0 y1 y2 y3 y4 y5, LeO (spec_NetWithout.l0 k y0 y1 y2 y3 y4 y5) (spec_NetWithout.l0 (k + 1) y0 y1 y2 y3 y4 y5))
 | 0 => fun _ _ _ _ _ _ r h => by simp [spec_NetWithout.l0] at h
 | k + 1 => by
  have aM := spec_NetWithout.mono_l k
  ·intro y0 y1 y2 y3 y4 y5; unfold spec_NetWithout.l0
   repeat' first
   | (with_reducible exact aM _ _ _ _ _ _)
   | (with_reducible exact spec_l1Knot.mono _ _ _ _)
   | (with_reducible exact LeO.refl _)
   | (with_reducible exact LeO.none _)
   | (with_reducible refine LeO.ite ?_ ?_)
   | (with_reducible refine LeO.bind ?_ (fun _ => ?_))
   | exact aM _ _ _ _ _ _
   | exact spec_l1Knot.mono _ _ _ _
   | exact LeO.none _
   | refine LeO.ite ?_ ?_
   | refine LeO.bind ?_ (fun _ => ?_)
theorem spec_NetWithout.mono : ∀ a0 a1 a2 k, LeO (spec_NetWithout.f k a0 a1 a2) (spec_NetWithout.f (k + 1) a0 a1 a2) := by
 intro a0 a1 a2 k; have aM := spec_NetWithout.mono_l k; unfold spec_NetWithout.f
 repeat' first | (with_reducible first | exact aM _ _ _ _ _ _ | exact spec_l1Knot.mono _ _ _ _ | exact LeO.refl _ | exact LeO.none _ | refine LeO.ite ?_ ?_ | refine LeO.bind ?_ (fun _ => ?_)) | exact aM _ _ _ _ _ _ | exact spec_l1Knot.mono _ _ _ _ | exact LeO.none _ | refine LeO.ite ?_ ?_ | refine LeO.bind ?_ (fun _ => ?_)
def spec_NetWithout.T8 : Bool × List (List Nat × List Nat) := (true, [([], []), ([0], [0]), ([], []), ([2], [2]), ([], []), ([3, 4], [3, 4]), ([5], [5]), ([6], [6]), ([1, 7], [1, 7]), ([0, 1, 2, 3, 4, 5, 6, 7, 8], []), ([9, 8, 8, 0, 1, 2, 3, 4, 5, 6, 7, 8], [8, 9])])
def spec_NetWithout.B8 : List Nat := [0, 1, 0, 4, 0, 28, 60, 124, 255, 511, 1023]
theorem spec_NetWithout.tab8 : rtab .any (opsOf Tryd.f77 8) = spec_NetWithout.T8 := by kernel_rfl
theorem spec_NetWithout.bits8 : waitsOk spec_NetWithout.T8.2 spec_NetWithout.B8 = true := by kernel_rfl
set_option maxHeartbeats 8000000 in
set_option maxRecDepth 100000 in
theorem spec_NetWithout.calls (k : Nat) (ab : Int) (au : Option Addr) (ap : Nat) (aa : List (S51)) (a1 : Int) (r1 : Int) (r2 : List (S51)) (w : World) (bp : Kd.C k51 w au aa.length aa) (bq : aa.length ≤ ap) (h : spec_NetWithout.f k ab aa a1 = some (r1, r2)) :
  Calls Tryd.prog 77 #[.agg #[.int .i64 ab, .slice au aa.length ap], .int .i64 a1] w fun e w' => ∃ cQ : Value, e = .returned (.agg #[.int .i64 r1, cQ]) ∧ Kd.R k51 51 w' w.heap.size (fun _ => True) cQ r2 ∧ Below w.heap.size w w' := by
 have c_ := Tryd.underlying29; have eN := Tryd.underlying51; have az := G.m bp; have ba := G.m bq; clear bp bq; have HB := G.m (Below.refl w.heap.size w); have H : ((spec_l1Knot.f k ab aa a1).bind fun bz => (if bz = true then (spec_NetWithout.l0 k a1 0 ab aa ab ([] : List (S51))) else (some (0, ([] : List (S51)))))) = some (r1, r2) := h; clear h; obtain ⟨bz, A3, H⟩ := G.bi H; replace H : (if bz = true then (spec_NetWithout.l0 k a1 0 ab aa ab ([] : List (S51))) else (some (0, ([] : List (S51))))) = some (r1, r2) := H
 by_cases c4 : bz = true
 ·subst c4; have H1 : (spec_NetWithout.l0 k a1 0 ab aa ab ([] : List (S51))) = some (r1, r2) := by rw [if_pos rfl] at H; exact H
  clear H; have H := H1; clear H1; have H' := G.m H; clear H
  go_enter Tryd.func77, Tryd.ntmps77
  go_wp2_with (first | ((with_reducible refine G.h 2 rfl ?_); refine G.be 2 #[.int .i64 ab, .slice au aa.length ap] 29 ?_; intro ao hg w5 hbox hb; have n0 := G.bs HB hb; have n1 := G.m (hbox); have n2 := G.m (cadY : w.heap.size ≤ ao); have n3 := G.m (cadY : w.heap.size ≤ ao); clear HB; revert n0 n1 n2 n3; intro HB ac ct cu; clear hb hbox hg) | ((with_reducible refine G.h 4 rfl ?_); refine G.be 4 #[.int .i64 0, .slice none 0 0] 29 ?_; intro ak hg w6 hbox hb; have n0 := G.bb ac hb; have n1 := G.bs HB hb; have n2 := G.m (hbox); have n3 := G.m (cadY : w.heap.size ≤ ak); have n4 := G.m (cadY : w.heap.size ≤ ak); have n5 := G.m (cad0 : ao ≠ ak); have n6 := G.m (cad1 : ak ≠ ao); clear ac HB; revert n0 n1 n2 n3 n4 n5 n6; intro ac HB af cv cw av aw; clear hb hbox hg; have eO := av.out; have eP := aw.out; have ⟨ca, cd, ce, cf⟩ := G.d2 (w := w6) ac) | ((with_reducible refine G.f 93 rfl ?_); refine G.gL 9 Tryd.func93 #[.agg #[.int .i64 ab, .slice au aa.length ap], .int .i64 a1] ?_; (with_reducible refine (spec_l1Knot.calls k ab _ _ aa a1 true _ ?side1 ?side2 A3.out).mono ?_); (case side1 => exact G.cC (Kd.C_below az.out HB.out)); (case side2 => exact ba.out); rintro e w9 ⟨rfl, hb⟩; refine ⟨_, rfl, ?_⟩; have n0 := G.bb ac hb; have n1 := G.bb af hb; have n2 := G.bs HB hb; clear ac af HB; revert n0 n1 n2; intro ac af HB; (try clear hb); have ⟨bW, bX, bY, bZ⟩ := G.d2 (w := w9) ac) | ((with_reducible refine G.h 5 rfl ?_); refine G.be 5 #[.int .i64 0, .slice none 0 0] 29 ?_; intro aI hg ea hbox hb; have n0 := G.bb ac hb; have n1 := G.bb af hb; have n2 := G.bs HB hb; have n3 := G.m (hbox); have n4 := G.m (cadY : w.heap.size ≤ aI); have n5 := G.m (cadY : w.heap.size ≤ aI); have n6 := G.m (cad0 : ao ≠ aI); have n7 := G.m (cad1 : aI ≠ ao); have n8 := G.m ((by rw [hg]; exact Nat.ne_of_lt (blk_lt (g := ak) (o := .cells #[.int .i64 0, .slice none 0 0] 29 (0, 0)) (G.cb af.out)) : ak ≠ aI)); have n9 := G.m ((by rw [hg]; exact Nat.ne_of_gt (blk_lt (g := ak) (o := .cells #[.int .i64 0, .slice none 0 0] 29 (0, 0)) (G.cb af.out)) : aI ≠ ak)); clear ac af HB; revert n0 n1 n2 n3 n4 n5 n6 n7 n8 n9; intro ac af HB ai ej ek am aD aE a6; clear hb hbox hg; have el := aD.out; have em := am.out; have en := a6.out; have eo := aE.out; have ⟨b1, b2, b3, b4⟩ := G.d2 (w := ea) ai))
  go_loopg [6] k (fun kq v6 w' => ∃ (ae : Int) (aj : List (S51)) (ax : Value), v6 = .int .i64 ae ∧ Aside0 (spec_NetWithout.l0 kq a1 ae ab aa ab aj = some (r1, r2)) ∧ Aside0 (kq ≤ k) ∧ Aside0 (Kd.R k51 51 w' w.heap.size (fun _ => True) ax aj) ∧ Aside0 (w'.heap[ao]? = some (.cells #[.int .i64 ab, (.slice au aa.length ap)] 29 (0, 0))) ∧ Aside0 (w'.heap[ak]? = some (.cells #[.int .i64 0, (.slice none 0 0)] 29 (0, 0))) ∧ Aside0 (w'.heap[aI]? = some (.cells #[.int .i64 ab, ax] 29 (0, 0))) ∧ Aside0 (Below w.heap.size w w'))
  case atStart => exact ⟨(0), (([] : List (S51))), (.slice none 0 0), (cadZ), H', ⟨Nat.le_refl _⟩, ⟨by first | exact Kd.R_nil _ _ _ _ _ | exact Kd.N_nil _ _ _ _ _ | exact Kd.V_nil _ _ _ _ _ | exact Kd.Q_nil _ _ _ _ _ | exact Kd.S_nil _ _ _ _ _⟩, ⟨by (with_reducible repeat (first | refine blk_drewN ?_ _ | refine blk_drew ?_ | refine blk_alloc ?_ _)); refine blk_far ?_ am.out _; (with_reducible repeat (first | refine blk_drewN ?_ _ | refine blk_drew ?_ | refine blk_alloc ?_ _)); refine blk_far ?_ am.out _; (with_reducible repeat (first | refine blk_drewN ?_ _ | refine blk_drew ?_ | refine blk_alloc ?_ _)); exact ac.out⟩, ⟨by (with_reducible repeat (first | refine blk_drewN ?_ _ | refine blk_drew ?_ | refine blk_alloc ?_ _)); refine blk_far ?_ aE.out _; (with_reducible repeat (first | refine blk_drewN ?_ _ | refine blk_drew ?_ | refine blk_alloc ?_ _)); refine blk_far ?_ aE.out _; (with_reducible repeat (first | refine blk_drewN ?_ _ | refine blk_drew ?_ | refine blk_alloc ?_ _)); exact af.out⟩, ⟨by (with_reducible repeat (first | refine blk_drewN ?_ _ | refine blk_drew ?_ | refine blk_alloc ?_ _)); refine blk_put (cs := #[.int .i64 ab, .slice none 0 0]) ?_ 1 _ rfl; (with_reducible repeat (first | refine blk_drewN ?_ _ | refine blk_drew ?_ | refine blk_alloc ?_ _)); refine blk_put (cs := #[.int .i64 0, .slice none 0 0]) ?_ 0 _ rfl; (with_reducible repeat (first | refine blk_drewN ?_ _ | refine blk_drew ?_ | refine blk_alloc ?_ _)); exact ai.out⟩, ⟨G.cB HB.out⟩⟩
  case round =>
   clear H'; (try clear c4 bW bX b1 b2 ca cd bY bZ b3 b4 ce cf); obtain ⟨ae, aj, ax, rfl, HA, aW, ah, ac, af, ai, HB⟩ := hrel; cases gk with
   | zero => exact absurd HA.out (by simp [spec_NetWithout.l0])
   | succ k1 =>
    have H := HA.out; clear HA; simp only [spec_NetWithout.l0] at H
    by_cases bF : ae < (aa.length : Int)
    ·rw [if_pos bF] at H; have cx : decide (ae < (aa.length : Int)) = true := decide_eq_true bF; clear bF
     by_cases br : 0 ≤ ae
     ·rw [if_pos br] at H; have ep : decide (0 ≤ ae) = true := decide_eq_true br; clear br
      by_cases a5 : ((rd_T51 aa ae).f0) = a1
      ·rw [if_pos a5] at H; have cy : (((rd_T51 aa ae).f0) == a1) = true := beq_iff_eq.mpr a5; have cz : (((rd_T51 aa ae).f0) != a1) = false := bne_eq_false_iff_eq.mpr a5; clear a5; have H' := G.m H; clear H; have eq := av.out; have er := aw.out; have es := am.out; have et := aD.out; have ⟨dj, dk, dl, dn⟩ := G.d2 (w := wr) ac; have aT : 0 ≤ (ae : Int) := of_decide_eq_true (G.asm); have aU : ae < (aa.length : Int) := of_decide_eq_true (G.asm); obtain ⟨aN, bC, aG, aH⟩ := at_T51 az.out ae aT aU; cases bC; replace aG := G.hx HB aG; replace aH := G.hx HB aH; replace aT := eq_true aT; replace aU := eq_true aU
       go_wp2
       go_roundg k1
       case measure => have := aW.out; omega
       case rel => exact ⟨(wrap64 (ae + 1)), (aj), (ax), (cadZ), H', ⟨by have := aW.out; omega⟩, ⟨G.cR ah.out⟩, ⟨G.cb ac.out⟩, ⟨G.cb af.out⟩, ⟨G.cb ai.out⟩, ⟨G.cB HB.out⟩⟩
      ·rw [if_neg a5] at H; have cy : (((rd_T51 aa ae).f0) == a1) = false := beq_eq_false_iff_ne.mpr a5; have cz : (((rd_T51 aa ae).f0) != a1) = true := bne_iff_ne.mpr a5
       by_cases bD : ((rd_T51 aa ae).f1) = a1
       ·rw [if_pos bD] at H; have cA : (((rd_T51 aa ae).f1) == a1) = true := beq_iff_eq.mpr bD; have cD : (((rd_T51 aa ae).f1) != a1) = false := bne_eq_false_iff_eq.mpr bD; clear bD; have H' := G.m H; clear H; have eu := av.out; have ev := aw.out; have ew := am.out; have ex := aD.out; have ⟨dp, dq, dr, dt⟩ := G.d2 (w := wr) ac; have aT : 0 ≤ (ae : Int) := of_decide_eq_true (G.asm); have aU : ae < (aa.length : Int) := of_decide_eq_true (G.asm); obtain ⟨aN, bC, aG, aH⟩ := at_T51 az.out ae aT aU; cases bC; replace aG := G.hx HB aG; replace aH := G.hx HB aH; replace aT := eq_true aT; replace aU := eq_true aU; have bj : 0 ≤ (ae : Int) := of_decide_eq_true (G.asm); have bk : ae < (aa.length : Int) := of_decide_eq_true (G.asm); obtain ⟨bG, bL, aY, aZ⟩ := at_T51 az.out ae bj bk; obtain rfl : aN = bG := (by injection bL); replace aY := G.hx HB aY; replace aZ := G.hx HB aZ; replace bj := eq_true bj; replace bk := eq_true bk
        go_wp2
        go_roundg k1
        case measure => have := aW.out; omega
        case rel => exact ⟨(wrap64 (ae + 1)), (aj), (ax), (cadZ), H', ⟨by have := aW.out; omega⟩, ⟨G.cR ah.out⟩, ⟨G.cb ac.out⟩, ⟨G.cb af.out⟩, ⟨G.cb ai.out⟩, ⟨G.cB HB.out⟩⟩
       ·rw [if_neg bD] at H; have cA : (((rd_T51 aa ae).f1) == a1) = false := beq_eq_false_iff_ne.mpr bD; have cD : (((rd_T51 aa ae).f1) != a1) = true := bne_iff_ne.mpr bD
        by_cases bQ : aj.length < 8796093022208
        ·rw [if_pos bQ] at H; have cE := G.m bQ; clear bQ; obtain ⟨bH, bu⟩ : ∃ y_ : List (S51), y_ = (aj ++ [(⟨(rd_T51 aa ae).f0, (rd_T51 aa ae).f1⟩ : S51)]) := ⟨_, rfl⟩; replace H : (spec_NetWithout.l0 k1 a1 (wrap64 (ae + 1)) ab aa ab bH) = some (r1, r2) := by first | (rw [bu]; with_reducible exact H) | (have a7 := (Option.bind_some _ _).symm.trans H; rw [bu]; with_reducible exact a7) | (have a7 := (Option.bind_some _ _).symm.trans H; with_reducible exact a7) | with_reducible exact H | (rw [bu]; exact H) | exact H
         have cF := G.m bu; clear bu; have H' := G.m H; clear H; have ey := av.out; have ez := aw.out; have eA := am.out; have eB := aD.out; have ⟨du, dv, dw, dx⟩ := G.d2 (w := wr) ac; have aT : 0 ≤ (ae : Int) := of_decide_eq_true (G.asm); have aU : ae < (aa.length : Int) := of_decide_eq_true (G.asm); obtain ⟨aN, bC, aG, aH⟩ := at_T51 az.out ae aT aU; cases bC; replace aG := G.hx HB aG; replace aH := G.hx HB aH; replace aT := eq_true aT; replace aU := eq_true aU; have bj : 0 ≤ (ae : Int) := of_decide_eq_true (G.asm); have bk : ae < (aa.length : Int) := of_decide_eq_true (G.asm); obtain ⟨bG, bL, aY, aZ⟩ := at_T51 az.out ae bj bk; obtain rfl : aN = bG := (by injection bL); replace aY := G.hx HB aY; replace aZ := G.hx HB aZ; replace bj := eq_true bj; replace bk := eq_true bk; try go_wp2
         have n0 := G.m (Kd.R_drew ah.out); have n1 := G.m (blk_drew ac.out); have n2 := G.m (blk_drew af.out); have n3 := G.m (blk_drew ai.out); have n4 := G.m (below_drew1 HB.out); clear ah ac af ai HB; revert n0 n1 n2 n3 n4; intro ah ac af ai HB; have bM : 0 ≤ (ae : Int) := of_decide_eq_true (G.asm); have bN : ae < (aa.length : Int) := of_decide_eq_true (G.asm); obtain ⟨cG, da, bc, bd⟩ := at_T51 az.out ae bM bN; have bf := bd; have bh := bc; obtain rfl : aN = cG := (by injection da); replace bc := G.hx HB bc; replace bd := G.hx HB bd; replace bM := eq_true bM; replace bN := eq_true bN; refine G.st 11 (S := fun w' => w'.cell? ⟨aI, 0, none⟩ = some (.int .i64 ab) ∧ w'.cell? ⟨aI, 1, none⟩ = some (ax) ∧ w'.cell? ⟨ao, 0, none⟩ = some (.int .i64 ab) ∧ w'.cell? ⟨ao, 1, none⟩ = some (.slice (some aN) aa.length ap) ∧ w'.cell? (aN.add ((ae).toNat * 2)) = some (.int .i64 ((rd_T51 aa ae).f0)) ∧ w'.cell? ⟨(aN.add ((ae).toNat * 2)).block, (aN.add ((ae).toNat * 2)).off + 1, none⟩ = some (.int .i64 ((rd_T51 aa ae).f1))) [10] ⟨G.z ai 0, G.z ai 1, G.z ac 0, G.z ac 1, (G.hx HB bh), (G.hx HB bf)⟩ spec_NetWithout.tab8 spec_NetWithout.bits8 (fun hHeld HT_ HW_ => ?_); generalize wr.drew = eY at ah ac af ai HB bc bd hHeld ⊢; refine G.pu 0 40 1 ?_; refine G.pu 2 42 5 ?_; refine G.pu 4 44 21 ?_; refine G.ta6 1 41 23 ?_; refine G.ta6 3 43 31 ?_; refine G.pu 5 45 63 ?_; refine G.ta6 6 46 127 ?_; refine G.on 7 47 255 (fun K hK => ?_); refine value_ (w1 := ?_) (v := ?_) (by rfl) rfl ?_ ?_; rotate_left 2
         ·go_simp
          constructor
          ·rfl
          ·rfl
         refine hK.out _ _ ⟨(blk_cell (blk_alloc ai.out _) 0).trans rfl, (blk_cell (blk_alloc ai.out _) 1).trans rfl, (blk_cell (blk_alloc ac.out _) 0).trans rfl, (blk_cell (blk_alloc ac.out _) 1).trans rfl, (World.cell?_alloc_lt _ _ _ (World.block_lt_of_cell? _ _ ((G.hx HB bh)))).trans ((G.hx HB bh)), (World.cell?_alloc_lt _ _ _ (World.block_lt_of_cell? _ _ ((G.hx HB bf)))).trans ((G.hx HB bf))⟩ (fun hHeld => ?_); clear hK K; refine G.no 47 ?_; refine G.on 8 48 511 (fun K hK => ?_); refine Kd.R_append_step k51 (w0 := w) w.heap.size (by rfl) (.tmp 41) (.tmp 47) 27 51 (.agg #[(.int .i64 0), (.int .i64 0)]) 16 rfl Tryd.underlying27 info51 rfl (by decide) (by omega) ax aj (⟨(rd_T51 aa ae).f0, (rd_T51 aa ae).f1⟩ : S51) [.int .i64 ((rd_T51 aa ae).f0), .int .i64 ((rd_T51 aa ae).f1)] (fun _ => True) (fun _ => False) rfl rfl ?aP (fun _ hk => hk.elim) ?aF ?aO ?aB ?aS ?aL ?_; (case aP => exact k51_mkM _ _ _ (⟨(rd_T51 aa ae).f0, (rd_T51 aa ae).f1⟩ : S51)); (case aB => exact (G.cB HB.out)); (case aF => exact (fun _ _ => trivial)); (case aO => exact (G.cR ah.out)); (case aS => exact (below_size (G.cB HB.out))); (case aL => have := cE.out; omega); intro eQ eb ho hb hg hat; rw [← cF.out] at ho; have n0 := G.bg ac hg (Kd.R_ne ah.out ac.out (by decide)); have n1 := G.bg af hg (Kd.R_ne ah.out af.out (by decide)); have n2 := G.bg ai hg (Kd.R_ne ah.out ai.out (by decide)); have n3 := G.m (hb); have n4 := G.m (ho); clear ac af ai HB ah; revert n0 n1 n2 n3 n4; intro ac af ai HB bR; clear ho hb hg hat; obtain ⟨cg, ch, ci⟩ := Kd.R_slice bR.out; (first | subst ci | (injection ci with cS ec cT; have ed := cS.symm; have ee := cT.symm; clear cS ec cT; subst ed; subst ee)); refine hK.out _ _ ⟨G.z ai 0, G.z ai 1, G.z ac 0, G.z ac 1, (G.hx HB bh), (G.hx HB bf)⟩ (fun hHeld => ?_); clear hK K; refine G.no 48 ?_; refine G.pu 9 49 1023 ?_; refine G.la 10 (none) (G.fl 11 2047) (fun K hK => ?_); have eR : eb.cell? ⟨aI, 1, none⟩ = some (ax) := G.z ai 1; have eC := blk_frozen ai.out 1; have dy := am.out; have dz := aE.out; have dA := aD.out; have dB := a6.out; refine skip_ (w1 := ?_) (by rfl) rfl ?_ ?_; rotate_left
         ·go_simp
          rfl
         refine hK.out _ _ ?_; clear hK K; refine done_ (done_of HT_.out (by kernel_rfl)) ?_; try go_wp2
         go_roundg k1
         case measure => have := aW.out; omega
         case rel => exact ⟨(wrap64 (ae + 1)), (bH), (.slice cg bH.length ch), (cadZ), H', ⟨by have := aW.out; omega⟩, ⟨by (with_reducible repeat (first | apply Kd.R_alloc | apply Kd.R_drewN | apply Kd.R_drew)); exact Kd.R_mono (Kd.R_far (p := ⟨aI, 1, none⟩) (Kd.R_types bR.out ai.out (by decide)) (fun _ hk => hk.2) (.slice cg bH.length ch)) (fun _ hk => trivial)⟩, ⟨by (with_reducible repeat (first | refine blk_drewN ?_ _ | refine blk_drew ?_ | refine blk_alloc ?_ _)); refine blk_far ?_ am.out _; (with_reducible repeat (first | refine blk_drewN ?_ _ | refine blk_drew ?_ | refine blk_alloc ?_ _)); exact ac.out⟩, ⟨by (with_reducible repeat (first | refine blk_drewN ?_ _ | refine blk_drew ?_ | refine blk_alloc ?_ _)); refine blk_far ?_ aE.out _; (with_reducible repeat (first | refine blk_drewN ?_ _ | refine blk_drew ?_ | refine blk_alloc ?_ _)); exact af.out⟩, ⟨by (with_reducible repeat (first | refine blk_drewN ?_ _ | refine blk_drew ?_ | refine blk_alloc ?_ _)); refine blk_put (cs := #[.int .i64 ab, ax]) ?_ 1 _ rfl; (with_reducible repeat (first | refine blk_drewN ?_ _ | refine blk_drew ?_ | refine blk_alloc ?_ _)); exact ai.out⟩, ⟨G.cB HB.out⟩⟩
        ·rw [if_neg bQ] at H; exact absurd H (by simp)
     ·rw [if_neg br] at H; exact absurd H (by simp)
    ·rw [if_neg bF] at H; have cx : decide (ae < (aa.length : Int)) = false := decide_eq_false bF; clear bF; simp only [Option.some.injEq, Prod.mk.injEq] at H; obtain ⟨rfl, rfl⟩ := H; have eD := av.out; have eE := aw.out; have eF := am.out; have eG := aD.out; have ⟨dC, dD, dE, dF⟩ := G.d2 (w := wr) ac; have eH := a6.out; have eI := aE.out; have ⟨dG, dH, dI, dJ⟩ := G.d2 (w := wr) ai; have ⟨dK, dL, dM, dN⟩ := G.d2 (w := wr) af; obtain ⟨cj, ck, db⟩ := Kd.R_slice ah.out; subst db
     go_wp2; refine bodyPost_ret (results_cell_row rfl _ _ ak 29 #[.int .i64 ab, .slice cj aj.length ck] (0, 0) _ rfl (by (with_reducible repeat (first | refine blk_drewN ?_ _ | refine blk_drew ?_ | refine blk_alloc ?_ _)); refine blk_put (cs := #[.int .i64 ab, .slice none 0 0]) ?_ 1 _ rfl; (with_reducible repeat (first | refine blk_drewN ?_ _ | refine blk_drew ?_ | refine blk_alloc ?_ _)); refine blk_put (cs := #[.int .i64 0, .slice none 0 0]) ?_ 0 _ rfl; (with_reducible repeat (first | refine blk_drewN ?_ _ | refine blk_drew ?_ | refine blk_alloc ?_ _)); exact af.out) Tryd.underlying29 rfl (by kernel_rfl)) rfl ?_; exact ⟨_, by first | rfl | (simp [errW_none, errW_some] <;> rfl) | (simp [*, errW_none, errW_some] <;> rfl), by (with_reducible repeat (first | apply Kd.R_alloc | apply Kd.R_drewN | apply Kd.R_drew)); exact Kd.R_mono (Kd.R_far (p := ⟨ak, 1, none⟩) (Kd.R_far (p := ⟨ak, 0, none⟩) (Kd.R_types ah.out af.out (by decide)) (fun _ hk => hk.2) (.int .i64 ab)) (fun _ hk => hk.2) (.slice cj aj.length ck)) (fun _ hk => trivial), G.cB HB.out⟩
 ·replace c4 := Bool.eq_false_iff.mpr c4; subst c4; have H1 : (some (0, ([] : List (S51)))) = some (r1, r2) := by rw [if_neg (show ¬ (false = true) by decide)] at H; exact H
  clear H; have H := H1; clear H1; simp only [Option.some.injEq, Prod.mk.injEq] at H; obtain ⟨rfl, rfl⟩ := H
  go_enter Tryd.func77, Tryd.ntmps77
  go_wp2_with (first | ((with_reducible refine G.h 2 rfl ?_); refine G.be 2 #[.int .i64 ab, .slice au aa.length ap] 29 ?_; intro ao hg eZ hbox hb; have n0 := G.bs HB hb; have n1 := G.m (hbox); have n2 := G.m (cadY : w.heap.size ≤ ao); have n3 := G.m (cadY : w.heap.size ≤ ao); clear HB; revert n0 n1 n2 n3; intro HB ac ct cu; clear hb hbox hg) | ((with_reducible refine G.h 4 rfl ?_); refine G.be 4 #[.int .i64 0, .slice none 0 0] 29 ?_; intro ak hg ef hbox hb; have n0 := G.bb ac hb; have n1 := G.bs HB hb; have n2 := G.m (hbox); have n3 := G.m (cadY : w.heap.size ≤ ak); have n4 := G.m (cadY : w.heap.size ≤ ak); have n5 := G.m (cad0 : ao ≠ ak); have n6 := G.m (cad1 : ak ≠ ao); clear ac HB; revert n0 n1 n2 n3 n4 n5 n6; intro ac HB af cv cw av aw; clear hb hbox hg; have eJ := av.out; have eK := aw.out; have ⟨dO, dP, dQ, dR⟩ := G.d2 (w := ef) ac) | ((with_reducible refine G.f 93 rfl ?_); refine G.gL 9 Tryd.func93 #[.agg #[.int .i64 ab, .slice au aa.length ap], .int .i64 a1] ?_; (with_reducible refine (spec_l1Knot.calls k ab _ _ aa a1 false _ ?side1 ?side2 A3.out).mono ?_); (case side1 => exact G.cC (Kd.C_below az.out HB.out)); (case side2 => exact ba.out); rintro e eg ⟨rfl, hb⟩; refine ⟨_, rfl, ?_⟩; have n0 := G.bb ac hb; have n1 := G.bb af hb; have n2 := G.bs HB hb; clear ac af HB; revert n0 n1 n2; intro ac af HB; (try clear hb); have ⟨dS, dT, dU, dV⟩ := G.d2 (w := eg) af))
  refine bodyPost_ret (results_cell_row rfl _ _ ak 29 #[.int .i64 0, .slice none 0 0] (0, 0) _ rfl (by (with_reducible repeat (first | refine blk_drewN ?_ _ | refine blk_drew ?_ | refine blk_alloc ?_ _)); refine blk_put (cs := #[.int .i64 0, .slice none 0 0]) ?_ 1 _ rfl; (with_reducible repeat (first | refine blk_drewN ?_ _ | refine blk_drew ?_ | refine blk_alloc ?_ _)); refine blk_put (cs := #[.int .i64 0, .slice none 0 0]) ?_ 0 _ rfl; (with_reducible repeat (first | refine blk_drewN ?_ _ | refine blk_drew ?_ | refine blk_alloc ?_ _)); exact af.out) Tryd.underlying29 rfl (by kernel_rfl)) rfl ?_; exact ⟨_, by first | rfl | (simp [errW_none, errW_some] <;> rfl) | (simp [*, errW_none, errW_some] <;> rfl), by first | exact Kd.R_nil _ _ _ _ _ | exact Kd.N_nil _ _ _ _ _ | exact Kd.V_nil _ _ _ _ _ | exact Kd.Q_nil _ _ _ _ _ | exact Kd.S_nil _ _ _ _ _, G.cB HB.out⟩

/-! ### spec_WayParts: function 78 -/
mutual
def spec_WayParts.l0 : Nat → List Int → Int → Int → List (S51) → Option (List Int)
 | 0, _, _, _, _ => none
 | k + 1, x3, x4, aR, a3 => if x4 < aR then ((spec_WayReach.f k aR a3 x4).bind fun aJ => (spec_WayParts.l1 k x3 x4 aJ 0 aR a3)) else (some x3)
def spec_WayParts.l1 : Nat → List Int → Int → List Bool → Int → Int → List (S51) → Option (List Int)
 | 0, _, _, _, _, _, _ => none
 | k + 1, x3, x4, x5, x6, aR, a3 => if 0 ≤ x6 then (if x6 < (x5.length : Int) then (if rdOf false x5 x6 = true then (if x3.length < 17592186044416 then (spec_WayParts.l0 k (x3 ++ [x6]) (wrap64 (x4 + 1)) aR a3) else (none)) else (spec_WayParts.l1 k x3 x4 x5 (wrap64 (x6 + 1)) aR a3)) else (none)) else (none)
end
def spec_WayParts.f (k : Nat) (ab : Int) (aa : List (S51)) : Option (List Int) := (some (([] : List Int) : List Int)).bind fun aK => ((spec_NetOk.f k ab aa).bind fun a8 => (if a8 = true then (spec_WayParts.l0 k aK 0 ab aa) else (some aK)))
theorem spec_WayParts.mono_l : ∀ k, (∀ y0 y1 y2 y3, LeO (spec_WayParts.l0 k y0 y1 y2 y3) (spec_WayParts.l0 (k + 1) y0 y1 y2 y3)) ∧ (∀ y0 y1 y2 y3 y4 y5, LeO (spec_WayParts.l1 k y0 y1 y2 y3 y4 y5) (spec_WayParts.l1 (k + 1) y0 y1 y2 y3 y4 y5))
 | 0 => ⟨fun _ _ _ _ r h => by simp [spec_WayParts.l0] at h, fun _ _ _ _ _ _ r h => by simp [spec_WayParts.l1] at h⟩
 | k + 1 => by
  obtain ⟨aM, bJ⟩ := spec_WayParts.mono_l k; refine ⟨?_, ?_⟩ <;> intros
  all_goals first | unfold spec_WayParts.l0 | unfold spec_WayParts.l1
  repeat' first | (with_reducible first | exact aM _ _ _ _ | exact bJ _ _ _ _ _ _ | exact spec_NetOk.mono _ _ _ | exact spec_WayReach.mono _ _ _ _ | exact LeO.refl _ | exact LeO.none _ | refine LeO.ite ?_ ?_ | refine LeO.bind ?_ (fun _ => ?_)) | exact aM _ _ _ _ | exact bJ _ _ _ _ _ _ | exact spec_NetOk.mono _ _ _ | exact spec_WayReach.mono _ _ _ _ | exact LeO.none _ | refine LeO.ite ?_ ?_ | refine LeO.bind ?_ (fun _ => ?_)
theorem spec_WayParts.mono : ∀ a0 a1 k, LeO (spec_WayParts.f k a0 a1) (spec_WayParts.f (k + 1) a0 a1) := by
 intro a0 a1 k; obtain ⟨aM, bJ⟩ := spec_WayParts.mono_l k; unfold spec_WayParts.f
 repeat' first | (with_reducible first | exact aM _ _ _ _ | exact bJ _ _ _ _ _ _ | exact spec_NetOk.mono _ _ _ | exact spec_WayReach.mono _ _ _ _ | exact LeO.refl _ | exact LeO.none _ | refine LeO.ite ?_ ?_ | refine LeO.bind ?_ (fun _ => ?_)) | exact aM _ _ _ _ | exact bJ _ _ _ _ _ _ | exact spec_NetOk.mono _ _ _ | exact spec_WayReach.mono _ _ _ _ | exact LeO.none _ | refine LeO.ite ?_ ?_ | refine LeO.bind ?_ (fun _ => ?_)
set_option maxHeartbeats 8000000 in
set_option maxRecDepth 100000 in
theorem spec_WayParts.calls (k : Nat) (ab : Int) (au : Option Addr) (ap : Nat) (aa : List (S51)) (r : List Int) (w : World) (bp : Kd.C k51 w au aa.length aa) (bq : aa.length ≤ ap) (h : spec_WayParts.f k ab aa = some r) :
  Calls Tryd.prog 78 #[.agg #[.int .i64 ab, .slice au aa.length ap]] w fun e w' => ∃ cU : Value, e = .returned (cU) ∧ Kd.R (Kd.int .i64) 3 w' w.heap.size (fun _ => True) cU r ∧ Below w.heap.size w w' := by
 have c_ := Tryd.underlying29; have az := G.m bp; have ba := G.m bq; clear bp bq; have HB := G.m (Below.refl w.heap.size w); have H : ((some (([] : List Int) : List Int)).bind fun aK => ((spec_NetOk.f k ab aa).bind fun a8 => (if a8 = true then (spec_WayParts.l0 k aK 0 ab aa) else (some aK)))) = some r := h; clear h; obtain ⟨aK, bv⟩ : ∃ y_ : List Int, y_ = (([] : List Int)) := ⟨_, rfl⟩; replace H : ((spec_NetOk.f k ab aa).bind fun a8 => (if a8 = true then (spec_WayParts.l0 k aK 0 ab aa) else (some aK))) = some r := by first | (rw [bv]; with_reducible exact H) | (have a7 := (Option.bind_some _ _).symm.trans H; rw [bv]; with_reducible exact a7) | (have a7 := (Option.bind_some _ _).symm.trans H; with_reducible exact a7) | with_reducible exact H | (rw [bv]; exact H) | exact H
 have bB := G.m bv; clear bv; obtain ⟨a8, A2, H⟩ := G.bi H; replace H : (if a8 = true then (spec_WayParts.l0 k aK 0 ab aa) else (some aK)) = some r := H
 by_cases c3 : a8 = true
 ·subst c3; have H1 : (spec_WayParts.l0 k aK 0 ab aa) = some r := by rw [if_pos rfl] at H; exact H
  clear H; have H := H1; clear H1; have H' := G.m H; clear H
  go_enter Tryd.func78, Tryd.ntmps78
  go_wp2_with (first | ((with_reducible refine G.h 1 rfl ?_); refine G.be 1 #[.int .i64 ab, .slice au aa.length ap] 29 ?_; intro a4 hg w4 hbox hb; have n0 := G.bs HB hb; have n1 := G.m (hbox); have n2 := G.m (cadY : w.heap.size ≤ a4); have n3 := G.m (cadY : w.heap.size ≤ a4); clear HB; revert n0 n1 n2 n3; intro HB ag cH cI; clear hb hbox hg) | ((with_reducible refine G.h 7 rfl ?_); refine Kd.R_lit (Kd.int .i64) _ 3 ?hg (N := 7) ?hd (xs := ([] : List Int)) (inner := []) (ok := fun _ => True) (okp := fun _ => True) ?hr ?hp (fun _ hk => hk) trivial (Below.refl _ _) (Nat.le_refl _) (by simp) ?_; (case hd => rfl); (case hg => rfl); (case hr => first | (go_simp; done) | (go_simp; rfl)); (case hp => exact (Reps.none _ _)); intro dc w5 bK hb hg_ hnew_; clear hg_ hnew_; (first | rw [← bB.out] at bK | (simp only [Int.reduceToNat] at bK; rw [← bB.out] at bK)); have n0 := G.m (Kd.R_lower bK (below_size (G.cB HB.out))); have n1 := G.bb ag hb; have n2 := G.bs HB hb; clear ag HB; revert n0 n1 n2; intro aQ ag HB; clear hb bK; have ⟨cl, cm, cn, co⟩ := G.d2 (w := w5) ag) | ((with_reducible refine G.f 38 rfl ?_); refine G.gL 9 Tryd.func38 #[.agg #[.int .i64 ab, .slice au aa.length ap]] ?_; (with_reducible refine (spec_NetOk.calls k ab _ _ aa true _ ?side1 ?side2 A2.out).mono ?_); (case side1 => exact G.cC (Kd.C_below az.out HB.out)); (case side2 => exact ba.out); rintro e w8 ⟨rfl, hb⟩; refine ⟨_, rfl, ?_⟩; have n0 := G.rb aQ hb; have n1 := G.bb ag hb; have n2 := G.bs HB hb; clear aQ ag HB; revert n0 n1 n2; intro aQ ag HB; (try clear hb)))
  go_loopg [3, 4] k (fun kq v3 v4 w' => ∃ (aA : List Int) (ay : Int), v4 = .int .i64 ay ∧ Aside0 (spec_WayParts.l0 kq aA ay ab aa = some r) ∧ Aside0 (kq ≤ k) ∧ Aside0 (Kd.R (Kd.int .i64) 3 w' w.heap.size (fun _ => True) v3 aA) ∧ Aside0 (w'.heap[a4]? = some (.cells #[.int .i64 ab, (.slice au aa.length ap)] 29 (0, 0))) ∧ Aside0 (Below w.heap.size w w'))
  case atStart => exact ⟨(aK), (0), (cadZ), H', ⟨Nat.le_refl _⟩, ⟨G.cR aQ.out⟩, ⟨G.cb ag.out⟩, ⟨G.cB HB.out⟩⟩
  case round =>
   clear H'; (try clear c3 cl cm cn co); obtain ⟨aA, ay, rfl, HA, aW, aV, ag, HB⟩ := hrel; cases gk with
   | zero => exact absurd HA.out (by simp [spec_WayParts.l0])
   | succ k1 =>
    have H := HA.out; clear HA; simp only [spec_WayParts.l0] at H
    by_cases c9 : ay < ab
    ·rw [if_pos c9] at H; have cp : decide (ay < ab) = true := decide_eq_true c9; clear c9; obtain ⟨aJ, eh, H⟩ := G.bi H; replace H : (spec_WayParts.l1 k1 aA ay aJ 0 ab aa) = some r := H; have H' := G.m H; clear H; have ⟨b5, b6, b7, b8⟩ := G.d2 (w := wr) ag
     go_wp2_with (first | ((with_reducible refine G.f 82 rfl ?_); refine G.gL 20 Tryd.func82 #[.agg #[.int .i64 ab, .slice au aa.length ap], .int .i64 ay] ?_; (with_reducible refine (spec_WayReach.calls k1 ab _ _ aa ay aJ _ ?side1 ?side2 eh.out).mono ?_); (case side1 => exact G.cC (Kd.C_below az.out HB.out)); (case side2 => exact ba.out); rintro e e2 ⟨dd, rfl, cW, hb⟩; refine ⟨_, rfl, ?_⟩; have n0 := G.rb aV hb; have n1 := G.m (Kd.R_lower cW (below_size (G.cB HB.out))); have n2 := G.bb ag hb; have n3 := G.bs HB hb; clear aV ag HB; revert n0 n1 n2 n3; intro aV cJ ag HB; (try clear hb cW)))
     go_loopg [6] k1 (fun kq v6 w' => ∃ (al : Int), v6 = .int .i64 al ∧ Aside0 (spec_WayParts.l1 kq aA ay aJ al ab aa = some r) ∧ Aside0 (kq ≤ k1) ∧ Aside0 (Kd.R (Kd.int .i64) 3 w' w.heap.size (fun _ => True) u3 aA) ∧ Aside0 (Kd.R Kd.bool 4 w' w.heap.size (fun _ => True) dd aJ) ∧ Aside0 (w'.heap[a4]? = some (.cells #[.int .i64 ab, (.slice au aa.length ap)] 29 (0, 0))) ∧ Aside0 (Below w.heap.size w w'))
     case atStart => exact ⟨(0), (cadZ), H', ⟨Nat.le_refl _⟩, ⟨G.cR aV.out⟩, ⟨G.cR cJ.out⟩, ⟨G.cb ag.out⟩, ⟨G.cB HB.out⟩⟩
     case round =>
      clear H'; (try clear cp b5 b6 b7 b8); obtain ⟨al, rfl, HA, bS, aV, a9, ag, HB⟩ := hrel; cases gk with
      | zero => exact absurd HA.out (by simp [spec_WayParts.l1])
      | succ k2 =>
       have H := HA.out; clear HA; simp only [spec_WayParts.l1] at H
       by_cases bT : 0 ≤ al
       ·rw [if_pos bT] at H; have eL : decide (0 ≤ al) = true := decide_eq_true bT; clear bT
        by_cases bU : al < (aJ.length : Int)
        ·rw [if_pos bU] at H; have eM : decide (al < (aJ.length : Int)) = true := decide_eq_true bU; clear bU; obtain ⟨cq, bI⟩ : ∃ b_ : Bool, b_ = (rdOf false aJ al) := ⟨_, rfl⟩; replace H : (if cq = true then (if aA.length < 17592186044416 then (spec_WayParts.l0 k2 (aA ++ [al]) (wrap64 (ay + 1)) ab aa) else (none)) else (spec_WayParts.l1 k2 aA ay aJ (wrap64 (al + 1)) ab aa)) = some r := by rw [← bI] at H; exact H
         have bV := G.m bI; clear bI
         by_cases br : cq = true
         ·subst br; have H1 : (if aA.length < 17592186044416 then (spec_WayParts.l0 k2 (aA ++ [al]) (wrap64 (ay + 1)) ab aa) else (none)) = some r := by rw [if_pos rfl] at H; exact H
          clear H; have H := H1; clear H1
          by_cases a5 : aA.length < 17592186044416
          ·rw [if_pos a5] at H; have cL := G.m a5; clear a5; obtain ⟨cr, bw⟩ : ∃ y_ : List Int, y_ = (aA ++ [al]) := ⟨_, rfl⟩; replace H : (spec_WayParts.l0 k2 cr (wrap64 (ay + 1)) ab aa) = some r := by first | (rw [bw]; with_reducible exact H) | (have a7 := (Option.bind_some _ _).symm.trans H; rw [bw]; with_reducible exact a7) | (have a7 := (Option.bind_some _ _).symm.trans H; with_reducible exact a7) | with_reducible exact H | (rw [bw]; exact H) | exact H
           have cM := G.m bw; clear bw; have H' := G.m H; clear H; obtain ⟨eS, eT, de⟩ := Kd.R_slice a9.out; subst de; have bl : 0 ≤ (al : Int) := of_decide_eq_true (G.asm); have bm : al < (aJ.length : Int) := of_decide_eq_true (G.asm); obtain ⟨cN, bO, bA⟩ := Kd.at_bool (Kd.R_reads' a9.out).2.2 al bl bm; (try rw [← bV.out] at bA); cases bO; replace bl := eq_true bl; replace bm := eq_true bm
           go_wp2_with (first | ((with_reducible refine gate_builtin (b := .append) (xs := #[.tmp 28, .tmp 30]) rfl ?_); at_builtin; refine Kd.R_append (Kd.int .i64) (w0 := w) w.heap.size rfl (.tmp 28) (.tmp 30) 37 3 (.int .i64 0) 8 rfl Tryd.underlying37 info3 rfl (by decide) (by omega) u3 aA al [.int .i64 al] (fun _ => True) (fun _ => False) rfl rfl ?aP (fun _ hk => hk.elim) ?aF ?aO ?aB ?aS ?aL ?_; (case aP => exact rfl); (case aB => exact (G.cB HB.out)); (case aF => exact (fun _ _ => trivial)); (case aO => exact (G.cR aV.out)); (case aS => exact (below_size (G.cB HB.out))); (case aL => have := cL.out; omega); intro eU e3 ho hb hg hat; rw [← cM.out] at ho; have n0 := G.m (Kd.R_over' (G.cR a9.out) (Kd.R_typed (G.cR aV.out)) (by decide) hg); have n1 := G.bg ag hg (Kd.R_ne aV.out ag.out (by decide)); have n2 := G.m (hb); have n3 := G.m (ho); clear a9 ag HB aV; revert n0 n1 n2 n3; intro a9 ag HB cO; clear ho hb hg hat))
           go_roundg k2
           case measure => have := aW.out; have := bS.out; omega
           case rel => exact ⟨(cr), (wrap64 (ay + 1)), (cadZ), H', ⟨by have := aW.out; have := bS.out; omega⟩, ⟨G.cR cO.out⟩, ⟨G.cb ag.out⟩, ⟨G.cB HB.out⟩⟩
          ·rw [if_neg a5] at H; exact absurd H (by simp)
         ·replace br := Bool.eq_false_iff.mpr br; subst br; have H1 : (spec_WayParts.l1 k2 aA ay aJ (wrap64 (al + 1)) ab aa) = some r := by rw [if_neg (show ¬ (false = true) by decide)] at H; exact H
          clear H; have H := H1; clear H1; have H' := G.m H; clear H; obtain ⟨eV, eW, df⟩ := Kd.R_slice a9.out; subst df; have bl : 0 ≤ (al : Int) := of_decide_eq_true (G.asm); have bm : al < (aJ.length : Int) := of_decide_eq_true (G.asm); obtain ⟨cN, bO, bA⟩ := Kd.at_bool (Kd.R_reads' a9.out).2.2 al bl bm; (try rw [← bV.out] at bA); cases bO; replace bl := eq_true bl; replace bm := eq_true bm
          go_wp2
          go_roundg k2
          case measure => have := aW.out; have := bS.out; omega
          case rel => exact ⟨(wrap64 (al + 1)), (cadZ), H', ⟨by have := aW.out; have := bS.out; omega⟩, ⟨G.cR aV.out⟩, ⟨G.cR a9.out⟩, ⟨G.cb ag.out⟩, ⟨G.cB HB.out⟩⟩
        ·rw [if_neg bU] at H; exact absurd H (by simp)
       ·rw [if_neg bT] at H; exact absurd H (by simp)
    ·rw [if_neg c9] at H; have cp : decide (ay < ab) = false := decide_eq_false c9; clear c9; obtain rfl := Option.some.inj H; have ⟨dW, dX, dY, dZ⟩ := G.d2 (w := wr) ag
     go_wp2
     go_ret
     exact ⟨_, by first | rfl | (simp [errW_none, errW_some] <;> rfl) | (simp [*, errW_none, errW_some] <;> rfl), G.cR aV.out, G.cB HB.out⟩
 ·replace c3 := Bool.eq_false_iff.mpr c3; subst c3; have H1 : (some aK) = some r := by rw [if_neg (show ¬ (false = true) by decide)] at H; exact H
  clear H; have H := H1; clear H1; obtain rfl := Option.some.inj H
  go_enter Tryd.func78, Tryd.ntmps78
  go_wp2_with (first | ((with_reducible refine G.h 1 rfl ?_); refine G.be 1 #[.int .i64 ab, .slice au aa.length ap] 29 ?_; intro a4 hg e4 hbox hb; have n0 := G.bs HB hb; have n1 := G.m (hbox); have n2 := G.m (cadY : w.heap.size ≤ a4); have n3 := G.m (cadY : w.heap.size ≤ a4); clear HB; revert n0 n1 n2 n3; intro HB ag cH cI; clear hb hbox hg) | ((with_reducible refine G.h 7 rfl ?_); refine Kd.R_lit (Kd.int .i64) _ 3 ?hg (N := 7) ?hd (xs := ([] : List Int)) (inner := []) (ok := fun _ => True) (okp := fun _ => True) ?hr ?hp (fun _ hk => hk) trivial (Below.refl _ _) (Nat.le_refl _) (by simp) ?_; (case hd => rfl); (case hg => rfl); (case hr => first | (go_simp; done) | (go_simp; rfl)); (case hp => exact (Reps.none _ _)); intro dc ei bE hb hg_ hnew_; clear hg_ hnew_; (first | rw [← bB.out] at bE | (simp only [Int.reduceToNat] at bE; rw [← bB.out] at bE)); have n0 := G.m (Kd.R_lower bE (below_size (G.cB HB.out))); have n1 := G.bb ag hb; have n2 := G.bs HB hb; clear ag HB; revert n0 n1 n2; intro aQ ag HB; clear hb bE; have ⟨d7, d8, d9, d_⟩ := G.d2 (w := ei) ag) | ((with_reducible refine G.f 38 rfl ?_); refine G.gL 9 Tryd.func38 #[.agg #[.int .i64 ab, .slice au aa.length ap]] ?_; (with_reducible refine (spec_NetOk.calls k ab _ _ aa false _ ?side1 ?side2 A2.out).mono ?_); (case side1 => exact G.cC (Kd.C_below az.out HB.out)); (case side2 => exact ba.out); rintro e e5 ⟨rfl, hb⟩; refine ⟨_, rfl, ?_⟩; have n0 := G.rb aQ hb; have n1 := G.bb ag hb; have n2 := G.bs HB hb; clear aQ ag HB; revert n0 n1 n2; intro aQ ag HB; (try clear hb)))
  go_ret
  exact ⟨_, by first | rfl | (simp [errW_none, errW_some] <;> rfl) | (simp [*, errW_none, errW_some] <;> rfl), G.cR aQ.out, G.cB HB.out⟩

/-! ### spec_l2Has: function 79 -/
def spec_l2Has.l0 : Nat → List Int → Int → Int → Option (Bool)
 | 0, _, _, _ => none
 | k + 1, x0, x1, x5 => if x5 < (x0.length : Int) then (if 0 ≤ x5 then (if (rd x0 x5) = x1 then (some true) else (spec_l2Has.l0 k x0 x1 (wrap64 (x5 + 1)))) else (none)) else (some false)
def spec_l2Has.f (k : Nat) (l0 : List Int) (a1 : Int) : Option (Bool) := spec_l2Has.l0 k l0 a1 0
theorem spec_l2Has.mono_l : ∀ k, (∀ y0 y1 y2, LeO (spec_l2Has.l0 k y0 y1 y2) (spec_l2Has.l0 (k + 1) y0 y1 y2))
 | 0 => fun _ _ _ r h => by simp [spec_l2Has.l0] at h
 | k + 1 => by
  have aM := spec_l2Has.mono_l k
  ·intro y0 y1 y2; unfold spec_l2Has.l0
   repeat' first
   | (with_reducible exact aM _ _ _)
   | (with_reducible exact LeO.refl _)
   | (with_reducible exact LeO.none _)
   | (with_reducible refine LeO.ite ?_ ?_)
   | (with_reducible refine LeO.bind ?_ (fun _ => ?_))
   | exact aM _ _ _
   | exact LeO.none _
   | refine LeO.ite ?_ ?_
   | refine LeO.bind ?_ (fun _ => ?_)
theorem spec_l2Has.mono : ∀ a0 a1 k, LeO (spec_l2Has.f k a0 a1) (spec_l2Has.f (k + 1) a0 a1) := by
 intro a0 a1 k; have aM := spec_l2Has.mono_l k; unfold spec_l2Has.f
 repeat' first | (with_reducible first | exact aM _ _ _ | exact LeO.refl _ | exact LeO.none _ | refine LeO.ite ?_ ?_ | refine LeO.bind ?_ (fun _ => ?_)) | exact aM _ _ _ | exact LeO.none _ | refine LeO.ite ?_ ?_ | refine LeO.bind ?_ (fun _ => ?_)
set_option maxHeartbeats 8000000 in
set_option maxRecDepth 100000 in
theorem spec_l2Has.calls (k : Nat) (A0 : Option Addr) (c0 : Nat) (l0 : List Int) (a1 : Int) (r : Bool) (w : World) (cX : Kd.C (Kd.int .i64) w A0 l0.length l0) (cY : l0.length ≤ c0) (h : spec_l2Has.f k l0 a1 = some r) :
  Calls Tryd.prog 79 #[.slice A0 l0.length c0, .int .i64 a1] w fun e w' => e = .returned (.bool r) ∧ Drawn0 w w' := by
 have cZ := G.m cX; have e6 := G.m cY; clear cX cY; have H : (spec_l2Has.l0 k l0 a1 0) = some r := h; clear h; have H' := G.m H; clear H
 go_enter Tryd.func79, Tryd.ntmps79
 go_wp2
 go_loopg [5] k (fun kq v5 w' => ∃ (aq : Int), v5 = .int .i64 aq ∧ Aside0 (spec_l2Has.l0 kq l0 a1 aq = some r) ∧ Aside0 (kq ≤ k) ∧ Drawn0 w w')
 case atStart => exact ⟨(0), (cadZ), H', ⟨Nat.le_refl _⟩, by repeat (first | exact Drawn0.refl _ | apply Drawn0.step)⟩
 case round =>
  clear H'; try clear p2
  obtain ⟨aq, rfl, HA, aW, ⟨m1, rfl⟩⟩ := hrel; cases gk with
  | zero => exact absurd HA.out (by simp [spec_l2Has.l0])
  | succ k1 =>
   have H := HA.out; clear HA; simp only [spec_l2Has.l0] at H
   by_cases c3 : aq < (l0.length : Int)
   ·rw [if_pos c3] at H; have dg : decide (aq < (l0.length : Int)) = true := decide_eq_true c3; clear c3
    by_cases c4 : 0 ≤ aq
    ·rw [if_pos c4] at H; have eX : decide (0 ≤ aq) = true := decide_eq_true c4; clear c4
     by_cases c5 : (rd l0 aq) = a1
     ·rw [if_pos c5] at H; have dh : ((rd l0 aq) == a1) = true := beq_iff_eq.mpr c5; have di : ((rd l0 aq) != a1) = false := bne_eq_false_iff_eq.mpr c5; clear c5; obtain rfl := Option.some.inj H; have bn : 0 ≤ (aq : Int) := of_decide_eq_true (G.asm); have bo : aq < (l0.length : Int) := of_decide_eq_true (G.asm); obtain ⟨cP, bP, b9⟩ := Kd.at_int cZ.out aq bn bo; cases bP; replace bn := eq_true bn; replace bo := eq_true bo
      go_wp2
      go_ret
      exact ⟨cadZ, by repeat (first | exact Drawn0.refl _ | apply Drawn0.step)⟩
     ·rw [if_neg c5] at H; have dh : ((rd l0 aq) == a1) = false := beq_eq_false_iff_ne.mpr c5; have di : ((rd l0 aq) != a1) = true := bne_iff_ne.mpr c5; have H' := G.m H; clear H; have bn : 0 ≤ (aq : Int) := of_decide_eq_true (G.asm); have bo : aq < (l0.length : Int) := of_decide_eq_true (G.asm); obtain ⟨cP, bP, b9⟩ := Kd.at_int cZ.out aq bn bo; cases bP; replace bn := eq_true bn; replace bo := eq_true bo
      go_wp2
      go_roundg k1
      case measure => have := aW.out; omega
      case rel => exact ⟨(wrap64 (aq + 1)), (cadZ), H', ⟨by have := aW.out; omega⟩, by repeat (first | exact Drawn0.refl _ | apply Drawn0.step)⟩
    ·rw [if_neg c4] at H; exact absurd H (by simp)
   ·rw [if_neg c3] at H; have dg : decide (aq < (l0.length : Int)) = false := decide_eq_false c3; clear c3; obtain rfl := Option.some.inj H
    go_wp2
    go_ret
    exact ⟨cadZ, by repeat (first | exact Drawn0.refl _ | apply Drawn0.step)⟩

end Go.Proofs.YtjkeagcenmmknaaDoor.P
