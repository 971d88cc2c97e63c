-- Printed by a program of this session (mp.py, over the kit's print). Not trusted: Lean checks it.
import Derived.Test.YtgeonpciodepgaaF0
import Derived.Test.YtgeonpciodepgaaF1
import Derived.Test.YtgeonpciodepgaaF3
namespace Go.Proofs.Ytgeonpciodepgaa.P
open Go.RowKit Go.Proofs.YtgeonpciodepgaaW.PrintWords Go.Proofs.YtgeonpciodepgaaW.PrintLast Go.Proofs.YtgeonpciodepgaaW.PrintMore
attribute [local go_sem] max2_int min2_int max_two min_two max_three min_three max_four min_four   -- for this text's walks alone
set_option linter.unusedVariables false
set_option linter.unusedSimpArgs false

theorem caat {p : Prop} (h : p := by rw [hg]; exact Nat.ne_of_lt (blk_lt (g := ao) (o := .cells #[.int .i64 af, .slice (some aL) aa.length av] 31 (0, 0)) (G.cb ac.out))) : p := h
theorem caau {p : Prop} (h : p := by rw [hg]; exact Nat.ne_of_gt (blk_lt (g := ao) (o := .cells #[.int .i64 af, .slice (some aL) aa.length av] 31 (0, 0)) (G.cb ac.out))) : p := h
theorem caar {p : Prop} (h : p := by first | rfl | (simp [errW_none, errW_some] <;> rfl) | (simp [*, errW_none, errW_some] <;> rfl)) : p := h
theorem caas {p : Prop} (h : p := by first | rfl | (simp; done) | (simp [*]; done)) : p := h
theorem caaq {p : Prop} (h : p := by rw [hg]; exact (below_size (G.cB HB.out))) : p := h
attribute [local go_sem high] eqA59
/-! ### impl_NetOk: function 50 -/
mutual
def impl_NetOk.j0 : Nat → Bool → Int → List (S59) → Option (Bool)
 | 0, _, _, _ => none
 | k + 1, cv, aG, ay => if cv = true then (some false) else (impl_NetOk.l0 k ay (ay.length : Int) 0 aG ay)
def impl_NetOk.l0 : Nat → List (S59) → Int → Int → Int → List (S59) → Option (Bool)
 | 0, _, _, _, _, _ => none
 | k + 1, aU, bO, aQ, aG, ay => if aQ < bO then (if 0 ≤ aQ then (if aQ < (aU.length : Int) then (if ((rd_T59 aU aQ).f0) < 0 then (some false) else (if ((rd_T59 aU aQ).f0) ≥ ((rd_T59 aU aQ).f1) then (some false) else (if ((rd_T59 aU aQ).f1) ≥ aG then (some false) else (impl_NetOk.l0 k aU bO (wrap64 (aQ + 1)) aG ay)))) else (none)) else (none)) else ((impl_ascending.f k ay).bind fun a4 => (some a4))
end
def impl_NetOk.f (k : Nat) (af : Int) (aa : List (S59)) : Option (Bool) := if af < 0 then (impl_NetOk.j0 k true af aa) else (impl_NetOk.j0 k (decide (af > 8)) af aa)
theorem impl_NetOk.mono_l : ∀ k, (∀ y0 y1 y2, LeO (impl_NetOk.j0 k y0 y1 y2) (impl_NetOk.j0 (k + 1) y0 y1 y2)) ∧ (∀ y0 y1 y2 y3 y4, LeO (impl_NetOk.l0 k y0 y1 y2 y3 y4) (impl_NetOk.l0 (k + 1) y0 y1 y2 y3 y4))
 | 0 => ⟨fun _ _ _ r h => by simp [impl_NetOk.j0] at h, fun _ _ _ _ _ r h => by simp [impl_NetOk.l0] at h⟩
 | k + 1 => by
  obtain ⟨aE, bd⟩ := impl_NetOk.mono_l k; refine ⟨?_, ?_⟩ <;> intros
  all_goals first | unfold impl_NetOk.j0 | unfold impl_NetOk.l0
  repeat' first | (with_reducible first | exact aE _ _ _ | exact bd _ _ _ _ _ | exact impl_ascending.mono _ _ | exact LeO.refl _ | exact LeO.none _ | refine LeO.ite ?_ ?_ | refine LeO.bind ?_ (fun _ => ?_)) | exact aE _ _ _ | exact bd _ _ _ _ _ | exact impl_ascending.mono _ _ | exact LeO.none _ | refine LeO.ite ?_ ?_ | refine LeO.bind ?_ (fun _ => ?_)
theorem impl_NetOk.mono : ∀ a0 a1 k, LeO (impl_NetOk.f k a0 a1) (impl_NetOk.f (k + 1) a0 a1) := by
 intro a0 a1 k; obtain ⟨aE, bd⟩ := impl_NetOk.mono_l k; unfold impl_NetOk.f
 repeat' first | (with_reducible first | exact aE _ _ _ | exact bd _ _ _ _ _ | exact impl_ascending.mono _ _ | exact LeO.refl _ | exact LeO.none _ | refine LeO.ite ?_ ?_ | refine LeO.bind ?_ (fun _ => ?_)) | exact aE _ _ _ | exact bd _ _ _ _ _ | exact impl_ascending.mono _ _ | exact LeO.none _ | refine LeO.ite ?_ ?_ | refine LeO.bind ?_ (fun _ => ?_)
set_option maxHeartbeats 8000000 in
set_option maxRecDepth 100000 in
theorem impl_NetOk.calls (k : Nat) (af : Int) (aw : Option Addr) (av : Nat) (aa : List (S59)) (r : Bool) (w : World) (aM : Kd.C k59 w aw aa.length aa) (aN : aa.length ≤ av) (h : impl_NetOk.f k af aa = some r) :
  Calls Try.prog 50 #[.agg #[.int .i64 af, .slice aw aa.length av]] w fun e w' => e = .returned (.bool r) ∧ Below w.heap.size w w' := by
 have bV := Try.underlying31; have bo := Try.underlying59; have aB := G.m aM; have a5 := G.m aN; clear aM aN; have HB := G.m (Below.refl w.heap.size w); have H : (if af < 0 then (impl_NetOk.j0 k true af aa) else (impl_NetOk.j0 k (decide (af > 8)) af aa)) = some r := h; clear h; have bz := G.m H; clear H
 go_enter Try.func50, Try.ntmps50
 go_upto_region 1 with (first | ((with_reducible refine G.h 1 rfl ?_); refine G.be 1 #[.int .i64 af, .slice aw aa.length av] 31 ?_; intro ao hg w3 hbox hb; have n0 := G.bs HB hb; have n1 := G.m (hbox); have n2 := G.m (caaq : w.heap.size ≤ ao); have n3 := G.m (caaq : w.heap.size ≤ ao); clear HB; revert n0 n1 n2 n3; intro HB ac cH cI; clear hb hbox hg))
 (try simp only [Act.put, List.setIfInBounds_toArray, List.set_cons_zero, List.set_cons_succ])
 go_cut [12] (fun cw wc => ∃ (kq : Nat) (aR : Bool), cw = .bool aR ∧ Aside0 (impl_NetOk.j0 kq aR af aa = some r) ∧ Aside0 (kq ≤ k) ∧ Aside0 (wc.heap[ao]? = some (.cells #[.int .i64 af, (.slice aw aa.length av)] 31 (0, 0))) ∧ Aside0 (Below w.heap.size w wc))
 case first =>
  have H := bz.out; clear bz
  by_cases c4 : af < 0
  ·rw [if_pos c4] at H; have aH : decide (af < 0) = true := decide_eq_true c4; clear c4; (first | rw [aH] | (simp only [i64_w, i32_w]; rw [aH]) | skip); have H' := G.m H; clear H; have ⟨bA, bB, bC, bD⟩ := G.d2 (w := w3) ac
   go_wp2
   go_meet
   case rel => exact ⟨_, (true), (caas), H', ⟨by first | omega | exact Nat.le_refl _⟩, ⟨G.cb ac.out⟩, ⟨G.cB HB.out⟩⟩
  ·rw [if_neg c4] at H; have aH : decide (af < 0) = false := decide_eq_false c4; clear c4; (first | rw [aH] | (simp only [i64_w, i32_w]; rw [aH]) | skip); have H' := G.m H; clear H; have ⟨bE, bF, bG, bH⟩ := G.d2 (w := w3) ac
   go_wp2
   go_meet
   case rel => exact ⟨_, (decide (af > 8)), (caas), H', ⟨by first | omega | exact Nat.le_refl _⟩, ⟨G.cb ac.out⟩, ⟨G.cB HB.out⟩⟩
 case rest =>
  clear bz; obtain ⟨kq, aR, rfl, HA, bP, ac, HB⟩ := hcut; cases kq with
  | zero => exact absurd HA.out (by simp [impl_NetOk.j0])
  | succ bI =>
   have H := HA.out; clear HA; simp only [impl_NetOk.j0] at H
   by_cases c7 : aR = true
   ·subst c7; have H1 : (some false) = some r := by rw [if_pos rfl] at H; exact H
    clear H; have H := H1; clear H1; obtain rfl := Option.some.inj H
    go_wp2
    go_ret
    exact ⟨caar, G.cB HB.out⟩
   ·replace c7 := Bool.eq_false_iff.mpr c7; subst c7; have H1 : (impl_NetOk.l0 bI aa (aa.length : Int) 0 af aa) = some r := by rw [if_neg (show ¬ (false = true) by decide)] at H; exact H
    clear H; have H := H1; clear H1; have H' := G.m H; clear H; have ⟨bf, bh, bj, bk⟩ := G.d2 (w := wc) ac
    go_wp2
    go_loopg [16] bI (fun kq cx w' => ∃ (ab : Int), cx = .int .i64 ab ∧ Aside0 (impl_NetOk.l0 kq aa (aa.length : Int) ab af aa = some r) ∧ Aside0 (kq ≤ bI) ∧ Aside0 (w'.heap[ao]? = some (.cells #[.int .i64 af, (.slice aw aa.length av)] 31 (0, 0))) ∧ Aside0 (Below w.heap.size w w'))
    case atStart => exact ⟨(0), (caas), H', ⟨Nat.le_refl _⟩, ⟨G.cb ac.out⟩, ⟨G.cB HB.out⟩⟩
    case round =>
     clear H'; (try clear c7 bf bh bj bk); obtain ⟨ab, rfl, HA, bQ, ac, HB⟩ := hrel; cases gk with
     | zero => exact absurd HA.out (by simp [impl_NetOk.l0])
     | succ k2 =>
      have H := HA.out; clear HA; simp only [impl_NetOk.l0] at H
      by_cases c9 : ab < (aa.length : Int)
      ·rw [if_pos c9] at H; have bW : decide (ab < (aa.length : Int)) = true := decide_eq_true c9; clear c9
       by_cases c10 : 0 ≤ ab
       ·rw [if_pos c10] at H; have cJ : decide (0 ≤ ab) = true := decide_eq_true c10; clear c10
        by_cases bq : ab < (aa.length : Int)
        ·rw [if_pos bq] at H; have cL : decide (ab < (aa.length : Int)) = true := decide_eq_true bq; clear bq
         by_cases aV : ((rd_T59 aa ab).f0) < 0
         ·rw [if_pos aV] at H; have bK : decide (((rd_T59 aa ab).f0) < 0) = true := decide_eq_true aV; clear aV; obtain rfl := Option.some.inj H; have aq : 0 ≤ (ab : Int) := of_decide_eq_true (G.asm); have au : ab < (aa.length : Int) := of_decide_eq_true (G.asm); obtain ⟨aL, aI, al, am⟩ := at_T59 aB.out ab aq au; cases aI; replace al := G.hx HB al; replace am := G.hx HB am; replace aq := eq_true aq; replace au := eq_true au
          go_wp2_with (first | ((with_reducible refine G.h 4 rfl ?_); refine G.be 4 #[.int .i64 0, .int .i64 0] 59 ?_; intro ai hg cy hbox hb; have n0 := G.bb ac hb; have n1 := G.bs HB hb; have n2 := G.m (hbox); have n3 := G.m (caaq : w.heap.size ≤ ai); have n4 := G.m (caaq : w.heap.size ≤ ai); have n5 := G.m (caat : ao ≠ ai); have n6 := G.m (caau : ai ≠ ao); clear ac HB; revert n0 n1 n2 n3 n4 n5 n6; intro ac HB aC a6 a7 aj ap; clear hb hbox hg; have cM := ap.out; have cN := aj.out; have ⟨b1, b2, b3, b4⟩ := G.d2 (w := cy) aC))
          go_ret
          exact ⟨caar, G.cB HB.out⟩
         ·rw [if_neg aV] at H; have bK : decide (((rd_T59 aa ab).f0) < 0) = false := decide_eq_false aV; clear aV
          by_cases aW : ((rd_T59 aa ab).f0) ≥ ((rd_T59 aa ab).f1)
          ·rw [if_pos aW] at H; have bL : decide (((rd_T59 aa ab).f1) ≤ ((rd_T59 aa ab).f0)) = true := decide_eq_true aW; clear aW; obtain rfl := Option.some.inj H; have aq : 0 ≤ (ab : Int) := of_decide_eq_true (G.asm); have au : ab < (aa.length : Int) := of_decide_eq_true (G.asm); obtain ⟨aL, aI, al, am⟩ := at_T59 aB.out ab aq au; cases aI; replace al := G.hx HB al; replace am := G.hx HB am; replace aq := eq_true aq; replace au := eq_true au
           go_wp2_with (first | ((with_reducible refine G.h 4 rfl ?_); refine G.be 4 #[.int .i64 0, .int .i64 0] 59 ?_; intro ai hg cz hbox hb; have n0 := G.bb ac hb; have n1 := G.bs HB hb; have n2 := G.m (hbox); have n3 := G.m (caaq : w.heap.size ≤ ai); have n4 := G.m (caaq : w.heap.size ≤ ai); have n5 := G.m (caat : ao ≠ ai); have n6 := G.m (caau : ai ≠ ao); clear ac HB; revert n0 n1 n2 n3 n4 n5 n6; intro ac HB aC a6 a7 aj ap; clear hb hbox hg; have cO := ap.out; have cP := aj.out; have ⟨b5, b6, b7, b8⟩ := G.d2 (w := cz) aC))
           go_ret
           exact ⟨caar, G.cB HB.out⟩
          ·rw [if_neg aW] at H; have bL : decide (((rd_T59 aa ab).f1) ≤ ((rd_T59 aa ab).f0)) = false := decide_eq_false aW; clear aW
           by_cases aX : ((rd_T59 aa ab).f1) ≥ af
           ·rw [if_pos aX] at H; have bM : decide (af ≤ ((rd_T59 aa ab).f1)) = true := decide_eq_true aX; clear aX; obtain rfl := Option.some.inj H; have aq : 0 ≤ (ab : Int) := of_decide_eq_true (G.asm); have au : ab < (aa.length : Int) := of_decide_eq_true (G.asm); obtain ⟨aL, aI, al, am⟩ := at_T59 aB.out ab aq au; cases aI; replace al := G.hx HB al; replace am := G.hx HB am; replace aq := eq_true aq; replace au := eq_true au
            go_wp2_with (first | ((with_reducible refine G.h 4 rfl ?_); refine G.be 4 #[.int .i64 0, .int .i64 0] 59 ?_; intro ai hg bR hbox hb; have n0 := G.bb ac hb; have n1 := G.bs HB hb; have n2 := G.m (hbox); have n3 := G.m (caaq : w.heap.size ≤ ai); have n4 := G.m (caaq : w.heap.size ≤ ai); have n5 := G.m (caat : ao ≠ ai); have n6 := G.m (caau : ai ≠ ao); clear ac HB; revert n0 n1 n2 n3 n4 n5 n6; intro ac HB aC a6 a7 aj ap; clear hb hbox hg; have cQ := ap.out; have cS := aj.out; have ⟨b9, b_, ca, cd⟩ := G.d2 (w := bR) aC; have ⟨ce, cf, cg, ch⟩ := G.d2 (w := bR) ac))
            go_ret
            exact ⟨caar, G.cB HB.out⟩
           ·rw [if_neg aX] at H; have bM : decide (af ≤ ((rd_T59 aa ab).f1)) = false := decide_eq_false aX; clear aX; have H' := G.m H; clear H; have aq : 0 ≤ (ab : Int) := of_decide_eq_true (G.asm); have au : ab < (aa.length : Int) := of_decide_eq_true (G.asm); obtain ⟨aL, aI, al, am⟩ := at_T59 aB.out ab aq au; cases aI; replace al := G.hx HB al; replace am := G.hx HB am; replace aq := eq_true aq; replace au := eq_true au
            go_wp2_with (first | ((with_reducible refine G.h 4 rfl ?_); refine G.be 4 #[.int .i64 0, .int .i64 0] 59 ?_; intro ai hg bS hbox hb; have n0 := G.bb ac hb; have n1 := G.bs HB hb; have n2 := G.m (hbox); have n3 := G.m (caaq : w.heap.size ≤ ai); have n4 := G.m (caaq : w.heap.size ≤ ai); have n5 := G.m (caat : ao ≠ ai); have n6 := G.m (caau : ai ≠ ao); clear ac HB; revert n0 n1 n2 n3 n4 n5 n6; intro ac HB aC a6 a7 aj ap; clear hb hbox hg; have cT := ap.out; have cU := aj.out; have ⟨ci, cj, ck, cl⟩ := G.d2 (w := bS) aC; have ⟨cm, cn, co, cp⟩ := G.d2 (w := bS) ac))
            go_roundg k2
            case measure => have := bP.out; have := bQ.out; omega
            case rel => exact ⟨(wrap64 (ab + 1)), (caas), H', ⟨by have := bP.out; have := bQ.out; omega⟩, ⟨by (with_reducible repeat (first | refine blk_drewN ?_ _ | refine blk_drew ?_ | refine blk_alloc ?_ _)); refine blk_far ?_ aj.out _; (with_reducible repeat (first | refine blk_drewN ?_ _ | refine blk_drew ?_ | refine blk_alloc ?_ _)); refine blk_far ?_ aj.out _; (with_reducible repeat (first | refine blk_drewN ?_ _ | refine blk_drew ?_ | refine blk_alloc ?_ _)); exact ac.out⟩, ⟨G.cB HB.out⟩⟩
        ·rw [if_neg bq] at H; exact absurd H (by simp)
       ·rw [if_neg c10] at H; exact absurd H (by simp)
      ·rw [if_neg c9] at H; have bW : decide (ab < (aa.length : Int)) = false := decide_eq_false c9; clear c9; obtain ⟨a4, cA, H⟩ := G.bi H; replace H : (some a4) = some r := H; obtain rfl := Option.some.inj H; have ⟨cq, cr, ct, cu⟩ := G.d2 (w := wr) ac
       go_wp2_with (first | ((with_reducible refine G.f 88 rfl ?_); refine G.gL 40 Try.func88 #[.slice aw aa.length av] ?_; (with_reducible refine (impl_ascending.calls k2 _ _ aa a4 _ ?side1 ?side2 cA.out).mono ?_); (case side1 => exact G.cC (Kd.C_below aB.out HB.out)); (case side2 => exact a5.out); rintro e dg ⟨rfl, hb⟩; refine ⟨_, rfl, ?_⟩; have n0 := G.bb ac hb; have n1 := G.bs HB hb; clear ac HB; revert n0 n1; intro ac HB; (try clear hb)))
       go_ret
       exact ⟨caar, G.cB HB.out⟩

/-! ### impl_tie: function 53 -/
def impl_tie.f (a0 : Int) (a1 : Int) : Option (Int × Int) := some (mn a0 a1, mx a0 a1)
set_option maxHeartbeats 8000000 in
set_option maxRecDepth 100000 in
theorem impl_tie.calls (a0 : Int) (a1 : Int) (r1 : Int) (r2 : Int) (w : World) (h : impl_tie.f a0 a1 = some (r1, r2)) :
  Calls Try.prog 53 #[.int .i64 a0, .int .i64 a1] w fun e w' => e = .returned (.agg #[.int .i64 r1, .int .i64 r2]) ∧ Below w.heap.size w w' := by
 have bo := Try.underlying59; have HB := G.m (Below.refl w.heap.size w); have H : (some (mn a0 a1, mx a0 a1)) = some (r1, r2) := h; clear h; obtain ⟨bl, a8⟩ : ∃ j_ : Int, (mn a0 a1) = j_ := ⟨_, rfl⟩; replace H : (some (bl, mx a0 a1)) = some (r1, r2) := by first | (rw [a8] at H; exact H) | (simp only [a8] at H ⊢; exact H)
 have cW : (if a1 < a0 then a1 else a0) = bl := a8; obtain ⟨bJ, a9⟩ : ∃ j_ : Int, (mx a0 a1) = j_ := ⟨_, rfl⟩; replace H : (some (bl, bJ)) = some (r1, r2) := by first | (rw [a9] at H; exact H) | (simp only [a9] at H ⊢; exact H)
 have cX : (if a0 < a1 then a1 else a0) = bJ := a9; simp only [Option.some.injEq, Prod.mk.injEq] at H; obtain ⟨rfl, rfl⟩ := H
 go_enter Try.func53, Try.ntmps53
 go_wp2_with (first | ((with_reducible refine G.h 4 rfl ?_); refine G.be 4 #[.int .i64 0, .int .i64 0] 59 ?_; intro a_ hg w5 hbox hb; have n0 := G.bs HB hb; have n1 := G.m (hbox); have n2 := G.m (caaq : w.heap.size ≤ a_); have n3 := G.m (caaq : w.heap.size ≤ a_); clear HB; revert n0 n1 n2 n3; intro HB br cY cZ; clear hb hbox hg; have ⟨bE, bF, bG, bH⟩ := G.d2 (w := w5) br))
 refine bodyPost_ret (results_cell_row rfl _ _ a_ 59 #[.int .i64 bl, .int .i64 bJ] (0, 0) _ rfl (by (with_reducible repeat (first | refine blk_drewN ?_ _ | refine blk_drew ?_ | refine blk_alloc ?_ _)); refine blk_put (cs := #[.int .i64 bl, .int .i64 0]) ?_ 1 _ rfl; (with_reducible repeat (first | refine blk_drewN ?_ _ | refine blk_drew ?_ | refine blk_alloc ?_ _)); refine blk_put (cs := #[.int .i64 0, .int .i64 0]) ?_ 0 _ rfl; (with_reducible repeat (first | refine blk_drewN ?_ _ | refine blk_drew ?_ | refine blk_alloc ?_ _)); exact br.out) Try.underlying59 rfl (by kernel_rfl)) rfl ?_; exact ⟨by first | rfl | (simp [errW_none, errW_some] <;> rfl) | (simp only [← a8, ← a9]; first | rfl | (simp [errW_none, errW_some] <;> rfl)) | (simp [*, errW_none, errW_some] <;> rfl), G.cB HB.out⟩

/-! ### slices_Index_impl_Tie_impl_Tie: function 111 -/
def slices_Index_impl_Tie_impl_Tie.l0 : Nat → List (S59) → Int → Int → Int → Int → Option (Int)
 | 0, _, _, _, _, _ => none
 | k + 1, x0, x7, x8, aY, aZ => if x8 < x7 then (if 0 ≤ x8 then (if x8 < (x0.length : Int) then (if (aY == ((rd_T59 x0 x8).f0) && (aZ == ((rd_T59 x0 x8).f1))) = true then (some x8) else (slices_Index_impl_Tie_impl_Tie.l0 k x0 x7 (wrap64 (x8 + 1)) aY aZ)) else (none)) else (none)) else (some (-1))
def slices_Index_impl_Tie_impl_Tie.f (k : Nat) (l0 : List (S59)) (ag : Int) (ah : Int) : Option (Int) := slices_Index_impl_Tie_impl_Tie.l0 k l0 (l0.length : Int) 0 ag ah
theorem slices_Index_impl_Tie_impl_Tie.mono_l : ∀ k, (∀ y0 y1 y2 y3 y4, LeO (slices_Index_impl_Tie_impl_Tie.l0 k y0 y1 y2 y3 y4) (slices_Index_impl_Tie_impl_Tie.l0 (k + 1) y0 y1 y2 y3 y4))
 | 0 => fun _ _ _ _ _ r h => by simp [slices_Index_impl_Tie_impl_Tie.l0] at h
 | k + 1 => by
  have aE := slices_Index_impl_Tie_impl_Tie.mono_l k
  ·intro y0 y1 y2 y3 y4; unfold slices_Index_impl_Tie_impl_Tie.l0
   repeat' first
   | (with_reducible exact aE _ _ _ _ _)
   | (with_reducible exact LeO.refl _)
   | (with_reducible exact LeO.none _)
   | (with_reducible refine LeO.ite ?_ ?_)
   | (with_reducible refine LeO.bind ?_ (fun _ => ?_))
   | exact aE _ _ _ _ _
   | exact LeO.none _
   | refine LeO.ite ?_ ?_
   | refine LeO.bind ?_ (fun _ => ?_)
theorem slices_Index_impl_Tie_impl_Tie.mono : ∀ a0 a1 a2 k, LeO (slices_Index_impl_Tie_impl_Tie.f k a0 a1 a2) (slices_Index_impl_Tie_impl_Tie.f (k + 1) a0 a1 a2) := by
 intro a0 a1 a2 k; have aE := slices_Index_impl_Tie_impl_Tie.mono_l k; unfold slices_Index_impl_Tie_impl_Tie.f
 repeat' first | (with_reducible first | exact aE _ _ _ _ _ | exact LeO.refl _ | exact LeO.none _ | refine LeO.ite ?_ ?_ | refine LeO.bind ?_ (fun _ => ?_)) | exact aE _ _ _ _ _ | exact LeO.none _ | refine LeO.ite ?_ ?_ | refine LeO.bind ?_ (fun _ => ?_)
set_option maxHeartbeats 8000000 in
set_option maxRecDepth 100000 in
theorem slices_Index_impl_Tie_impl_Tie.calls (k : Nat) (A0 : Option Addr) (c0 : Nat) (l0 : List (S59)) (ag : Int) (ah : Int) (r : Int) (w : World) (bm : Kd.C k59 w A0 l0.length l0) (bn : l0.length ≤ c0) (h : slices_Index_impl_Tie_impl_Tie.f k l0 ag ah = some r) :
  Calls Try.prog 111 #[.slice A0 l0.length c0, .agg #[.int .i64 ag, .int .i64 ah]] w fun e w' => e = .returned (.int .i64 r) ∧ Below w.heap.size w w' := by
 have bo := Try.underlying59; have bu := G.m bm; have bT := G.m bn; clear bm bn; have HB := G.m (Below.refl w.heap.size w); have H : (slices_Index_impl_Tie_impl_Tie.l0 k l0 (l0.length : Int) 0 ag ah) = some r := h; clear h; have H' := G.m H; clear H
 go_enter Try.func111, Try.ntmps111
 go_wp2_with (first | ((with_reducible refine G.h 3 rfl ?_); refine G.be 3 #[.int .i64 ag, .int .i64 ah] 59 ?_; intro ax hg w3 hbox hb; have n0 := G.bs HB hb; have n1 := G.m (hbox); have n2 := G.m (caaq : w.heap.size ≤ ax); have n3 := G.m (caaq : w.heap.size ≤ ax); clear HB; revert n0 n1 n2 n3; intro HB aD bv bw; clear hb hbox hg))
 repeat (go_quiet (first | ((with_reducible refine G.h 3 rfl ?_); refine G.be 3 #[.int .i64 ag, .int .i64 ah] 59 ?_; intro ax hg w3 hbox hb; have n0 := G.bs HB hb; have n1 := G.m (hbox); have n2 := G.m (caaq : w.heap.size ≤ ax); have n3 := G.m (caaq : w.heap.size ≤ ax); clear HB; revert n0 n1 n2 n3; intro HB aD bv bw; clear hb hbox hg)); try go_wp2_with (first | ((with_reducible refine G.h 3 rfl ?_); refine G.be 3 #[.int .i64 ag, .int .i64 ah] 59 ?_; intro ax hg w3 hbox hb; have n0 := G.bs HB hb; have n1 := G.m (hbox); have n2 := G.m (caaq : w.heap.size ≤ ax); have n3 := G.m (caaq : w.heap.size ≤ ax); clear HB; revert n0 n1 n2 n3; intro HB aD bv bw; clear hb hbox hg)))
 go_loopg [8] k (fun kq v8 w' => ∃ (ae : Int), v8 = .int .i64 ae ∧ Aside0 (slices_Index_impl_Tie_impl_Tie.l0 kq l0 (l0.length : Int) ae ag ah = some r) ∧ Aside0 (kq ≤ k) ∧ Aside0 (w'.heap[ax]? = some (.cells #[.int .i64 ag, .int .i64 ah] 59 (0, 0))) ∧ Aside0 (Below w.heap.size w w'))
 case atStart => exact ⟨(0), (caas), H', ⟨Nat.le_refl _⟩, ⟨G.cb aD.out⟩, ⟨G.cB HB.out⟩⟩
 case round =>
  clear H'; obtain ⟨ae, rfl, HA, bU, aD, HB⟩ := hrel; cases gk with
  | zero => exact absurd HA.out (by simp [slices_Index_impl_Tie_impl_Tie.l0])
  | succ k1 =>
   have H := HA.out; clear HA; simp only [slices_Index_impl_Tie_impl_Tie.l0] at H
   by_cases c4 : ae < (l0.length : Int)
   ·rw [if_pos c4] at H; have aH : decide (ae < (l0.length : Int)) = true := decide_eq_true c4; clear c4
    by_cases c5 : 0 ≤ ae
    ·rw [if_pos c5] at H; have dd : decide (0 ≤ ae) = true := decide_eq_true c5; clear c5
     by_cases c6 : ae < (l0.length : Int)
     ·rw [if_pos c6] at H; have de : decide (ae < (l0.length : Int)) = true := decide_eq_true c6; clear c6
      by_cases c7 : (ag == ((rd_T59 l0 ae).f0) && (ah == ((rd_T59 l0 ae).f1))) = true
      ·rw [if_pos c7] at H; have bX : (ag == ((rd_T59 l0 ae).f0) && (ah == ((rd_T59 l0 ae).f1))) = true := c7; (try (have bY : decide (ag = ((rd_T59 l0 ae).f0) && (ah == ((rd_T59 l0 ae).f1))) = true := by simpa using c7)); (try (have bZ : (ag == ((rd_T59 l0 ae).f0) && (ah == ((rd_T59 l0 ae).f1))) = true := by simpa using c7)); clear c7; obtain rfl := Option.some.inj H; have ⟨bf, bh, bj, bk⟩ := G.d2 (w := wr) aD; have aJ : 0 ≤ (ae : Int) := of_decide_eq_true (G.asm); have aK : ae < (l0.length : Int) := of_decide_eq_true (G.asm); obtain ⟨bN, bp, az, aA⟩ := at_T59 bu.out ae aJ aK; cases bp; replace az := G.hx HB az; replace aA := G.hx HB aA; replace aJ := eq_true aJ; replace aK := eq_true aK
       go_wp2
       repeat (go_quiet (fail); try go_wp2)
       go_ret
       exact ⟨caar, G.cB HB.out⟩
      ·rw [if_neg c7] at H; have bX : (ag == ((rd_T59 l0 ae).f0) && (ah == ((rd_T59 l0 ae).f1))) = false := by simpa using c7
       (try (have bY : decide (ag = ((rd_T59 l0 ae).f0) && (ah == ((rd_T59 l0 ae).f1))) = false := by simpa using c7)); (try (have bZ : (ag == ((rd_T59 l0 ae).f0) && (ah == ((rd_T59 l0 ae).f1))) = false := by simpa using c7)); (try (have df : ¬ (ag = ((rd_T59 l0 ae).f0) && (ah == ((rd_T59 l0 ae).f1))) := by simpa using c7)); clear c7; have H' := G.m H; clear H; have ⟨cD, cE, cF, cG⟩ := G.d2 (w := wr) aD; have aJ : 0 ≤ (ae : Int) := of_decide_eq_true (G.asm); have aK : ae < (l0.length : Int) := of_decide_eq_true (G.asm); obtain ⟨bN, bp, az, aA⟩ := at_T59 bu.out ae aJ aK; cases bp; replace az := G.hx HB az; replace aA := G.hx HB aA; replace aJ := eq_true aJ; replace aK := eq_true aK
       go_wp2
       repeat (go_quiet (fail); try go_wp2)
       go_roundg k1
       case measure => have := bU.out; omega
       case rel => exact ⟨(wrap64 (ae + 1)), (caas), H', ⟨by have := bU.out; omega⟩, ⟨G.cb aD.out⟩, ⟨G.cB HB.out⟩⟩
     ·rw [if_neg c6] at H; exact absurd H (by simp)
    ·rw [if_neg c5] at H; exact absurd H (by simp)
   ·rw [if_neg c4] at H; have aH : decide (ae < (l0.length : Int)) = false := decide_eq_false c4; clear c4; obtain rfl := Option.some.inj H
    go_wp2
    repeat (go_quiet (fail); try go_wp2)
    go_ret
    exact ⟨caar, G.cB HB.out⟩

/-! ### slices_Contains_impl_Tie_impl_Tie: function 81 -/
def slices_Contains_impl_Tie_impl_Tie.f (k : Nat) (l0 : List (S59)) (ag : Int) (ah : Int) : Option (Bool) := (slices_Index_impl_Tie_impl_Tie.f k l0 ag ah).bind fun aP => (some (decide (aP ≥ 0)))
theorem slices_Contains_impl_Tie_impl_Tie.mono : ∀ a0 a1 a2 k, LeO (slices_Contains_impl_Tie_impl_Tie.f k a0 a1 a2) (slices_Contains_impl_Tie_impl_Tie.f (k + 1) a0 a1 a2) := by
 intro a0 a1 a2 k; unfold slices_Contains_impl_Tie_impl_Tie.f
 repeat' first | (with_reducible first | exact slices_Index_impl_Tie_impl_Tie.mono _ _ _ _ | exact LeO.refl _ | exact LeO.none _ | refine LeO.ite ?_ ?_ | refine LeO.bind ?_ (fun _ => ?_)) | exact slices_Index_impl_Tie_impl_Tie.mono _ _ _ _ | exact LeO.none _ | refine LeO.ite ?_ ?_ | refine LeO.bind ?_ (fun _ => ?_)
set_option maxHeartbeats 8000000 in
set_option maxRecDepth 100000 in
theorem slices_Contains_impl_Tie_impl_Tie.calls (k : Nat) (A0 : Option Addr) (c0 : Nat) (l0 : List (S59)) (ag : Int) (ah : Int) (r : Bool) (w : World) (bm : Kd.C k59 w A0 l0.length l0) (bn : l0.length ≤ c0) (h : slices_Contains_impl_Tie_impl_Tie.f k l0 ag ah = some r) :
  Calls Try.prog 81 #[.slice A0 l0.length c0, .agg #[.int .i64 ag, .int .i64 ah]] w fun e w' => e = .returned (.bool r) ∧ Below w.heap.size w w' := by
 have bo := Try.underlying59; have bu := G.m bm; have bT := G.m bn; clear bm bn; have HB := G.m (Below.refl w.heap.size w); have H : ((slices_Index_impl_Tie_impl_Tie.f k l0 ag ah).bind fun aP => (some (decide (aP ≥ 0)))) = some r := h; clear h; obtain ⟨aP, A3, H⟩ := G.bi H; replace H : (some (decide (aP ≥ 0))) = some r := H; obtain rfl := Option.some.inj H
 go_enter Try.func81, Try.ntmps81
 go_wp2_with (first | ((with_reducible refine G.h 3 rfl ?_); refine G.be 3 #[.int .i64 ag, .int .i64 ah] 59 ?_; intro bx hg w4 hbox hb; have n0 := G.bs HB hb; have n1 := G.m (hbox); have n2 := G.m (caaq : w.heap.size ≤ bx); have n3 := G.m (caaq : w.heap.size ≤ bx); clear HB; revert n0 n1 n2 n3; intro HB aS c_ da; clear hb hbox hg; have ⟨bA, bB, bC, bD⟩ := G.d2 (w := w4) aS) | ((with_reducible refine G.f 111 rfl ?_); refine G.gL 7 Try.func111 #[.slice A0 l0.length c0, .agg #[.int .i64 ag, .int .i64 ah]] ?_; (with_reducible refine (slices_Index_impl_Tie_impl_Tie.calls k _ _ l0 ag ah aP _ ?side1 ?side2 A3.out).mono ?_); (case side1 => exact G.cC (Kd.C_below bu.out HB.out)); (case side2 => exact bT.out); rintro e w6 ⟨rfl, hb⟩; refine ⟨_, rfl, ?_⟩; have n0 := G.bb aS hb; have n1 := G.bs HB hb; clear aS HB; revert n0 n1; intro aS HB; (try clear hb)))
 go_ret
 exact ⟨caar, G.cB HB.out⟩

/-! ### impl_Net_has: function 65 -/
def impl_Net_has.f (k : Nat) (af : Int) (aa : List (S59)) (a1 : Int) (a2 : Int) : Option (Bool) := (impl_tie.f a1 a2).bind fun aO => ((slices_Contains_impl_Tie_impl_Tie.f k aa aO.1 aO.2).bind fun aF => (some aF))
theorem impl_Net_has.mono : ∀ a0 a1 a2 a3 k, LeO (impl_Net_has.f k a0 a1 a2 a3) (impl_Net_has.f (k + 1) a0 a1 a2 a3) := by
 intro a0 a1 a2 a3 k; unfold impl_Net_has.f
 repeat' first | (with_reducible first | exact slices_Contains_impl_Tie_impl_Tie.mono _ _ _ _ | exact LeO.refl _ | exact LeO.none _ | refine LeO.ite ?_ ?_ | refine LeO.bind ?_ (fun _ => ?_)) | exact slices_Contains_impl_Tie_impl_Tie.mono _ _ _ _ | exact LeO.none _ | refine LeO.ite ?_ ?_ | refine LeO.bind ?_ (fun _ => ?_)
set_option maxHeartbeats 8000000 in
set_option maxRecDepth 100000 in
theorem impl_Net_has.calls (k : Nat) (af : Int) (aw : Option Addr) (av : Nat) (aa : List (S59)) (a1 : Int) (a2 : Int) (r : Bool) (w : World) (aM : Kd.C k59 w aw aa.length aa) (aN : aa.length ≤ av) (h : impl_Net_has.f k af aa a1 a2 = some r) :
  Calls Try.prog 65 #[.agg #[.int .i64 af, .slice aw aa.length av], .int .i64 a1, .int .i64 a2] w fun e w' => e = .returned (.bool r) ∧ Below w.heap.size w w' := by
 have bV := Try.underlying31; have aB := G.m aM; have a5 := G.m aN; clear aM aN; have HB := G.m (Below.refl w.heap.size w); have H : ((impl_tie.f a1 a2).bind fun aO => ((slices_Contains_impl_Tie_impl_Tie.f k aa aO.1 aO.2).bind fun aF => (some aF))) = some r := h; clear h; obtain ⟨⟨ba, bc⟩, A4, H⟩ := G.bi H; replace H : ((slices_Contains_impl_Tie_impl_Tie.f k aa ba bc).bind fun aF => (some aF)) = some r := H; obtain ⟨aF, A5, H⟩ := G.bi H; replace H : (some aF) = some r := H; obtain rfl := Option.some.inj H
 go_enter Try.func65, Try.ntmps65; try go_wp2_with (first | ((with_reducible refine G.h 3 rfl ?_); refine G.be 3 #[.int .i64 af, .slice aw aa.length av] 31 ?_; intro aT hg w6 hbox hb; have n0 := G.bs HB hb; have n1 := G.m (hbox); have n2 := G.m (caaq : w.heap.size ≤ aT); have n3 := G.m (caaq : w.heap.size ≤ aT); clear HB; revert n0 n1 n2 n3; intro HB ak db dc; clear hb hbox hg))
 have n0 := G.m (blk_drew ak.out); have n1 := G.m (below_drew1 HB.out); clear ak HB; revert n0 n1; intro ak HB; refine start_ (n := 7) (S := fun w' => w'.cell? ⟨aT, 0, none⟩ = some (.int .i64 af) ∧ w'.cell? ⟨aT, 1, none⟩ = some (.slice aw aa.length av)) (ds := []) (G.fl 7 0) (by kernel_rfl) rfl (by kernel_rfl) ⟨G.z ak 0, G.z ak 1⟩ (fun hHeld => ?_); generalize w6.drew = w7 at ak HB hHeld ⊢; refine G.pu 0 7 1 ?_; refine G.pu 2 9 5 ?_; refine G.pu 3 10 13 ?_; refine G.ta2 1 8 15 ?_; refine one_ (i := 4) (N := some 11) (G.fl 7 31) rfl rfl (by kernel_rfl) (by decide) (fun K hK => ?_); refine G.gs Try.func53 #[.int .i64 a1, .int .i64 a2] ?_; with_reducible refine (impl_tie.calls a1 a2 ba bc _ A4.out).mono ?_
 rintro e w8 ⟨rfl, hb⟩; refine ⟨_, rfl, ?_⟩; have n0 := G.bb ak hb; have n1 := G.bs HB hb; clear ak HB; revert n0 n1; intro ak HB; (try clear hb); refine hK.out _ _ ⟨G.z ak 0, G.z ak 1⟩ (fun hHeld => ?_); clear hK K; refine G.no 11 ?_; refine one_ (i := 5) (N := some 12) (G.fl 7 63) rfl rfl (by kernel_rfl) (by decide) (fun K hK => ?_); refine G.gs Try.func81 #[.slice aw aa.length av, .agg #[.int .i64 ba, .int .i64 bc]] ?_; with_reducible refine (slices_Contains_impl_Tie_impl_Tie.calls k _ _ aa ba bc aF _ ?side1 ?side2 A5.out).mono ?_
 (case side1 => exact G.cC (Kd.C_below aB.out HB.out)); (case side2 => exact a5.out); rintro e w9 ⟨rfl, hb⟩; refine ⟨_, rfl, ?_⟩; have n0 := G.bb ak hb; have n1 := G.bs HB hb; clear ak HB; revert n0 n1; intro ak HB; (try clear hb); refine hK.out _ _ ⟨G.z ak 0, G.z ak 1⟩ (fun hHeld => ?_); clear hK K; refine G.no 12 ?_; refine G.pu 6 6 127 ?_; refine done_ (by kernel_rfl) ?_; try go_wp2
 go_ret
 exact ⟨caar, G.cB HB.out⟩

end Go.Proofs.Ytgeonpciodepgaa.P
