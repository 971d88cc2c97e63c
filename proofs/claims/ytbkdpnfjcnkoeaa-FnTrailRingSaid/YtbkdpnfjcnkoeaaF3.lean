-- Printed by a program of this session (mp.py, over the kit's print). Not trusted: Lean checks it.
import Derived.Test.YtbkdpnfjcnkoeaaF0
import Derived.Test.YtbkdpnfjcnkoeaaF1
import Derived.Test.YtbkdpnfjcnkoeaaF2
namespace Go.Proofs.Ytbkdpnfjcnkoeaa.P
open Go.RowKit Go.Proofs.YtbkdpnfjcnkoeaaW.PrintWords Go.Proofs.YtbkdpnfjcnkoeaaW.PrintLast Go.Proofs.YtbkdpnfjcnkoeaaW.PrintMore
attribute [local go_sem] max2_int min2_int max_two min_two max_three min_three max_four min_four   -- for this text's walks alone
set_option linter.unusedVariables false
set_option linter.unusedSimpArgs false

theorem caap {p : Prop} (h : p := by (try simp only [List.map_toArray, List.map_cons, List.map_nil]); first | done | (simp only [bk]; rfl) | rfl | (simp only [List.length_drop, List.length_take]; rfl)) : p := h
theorem caao {p : Prop} (h : p := by first | rfl | (simp [errW_none, errW_some] <;> rfl) | (simp [*, errW_none, errW_some] <;> rfl)) : p := h
theorem caal {p : Prop} (h : p := by first | rfl | (simp; done) | (simp [*]; done)) : p := h
theorem caam {p : Prop} (h : p := by rw [hg]; exact (below_size (G.cB HB.out))) : p := h
theorem caan {p : Prop} (h : p := by kernel_rfl) : p := h
attribute [local go_sem high] eqA63
/-! ### spec_l1Knot: function 38 -/
def spec_l1Knot.f (k : Nat) (ac : Int) (aa : List (S63)) (a1 : Int) : Option (Bool) := (spec_NetOk.f k ac aa).bind fun bh => (if bh = true then ((spec_l6In.f a1 0 (wrap64 (ac - 1))).bind fun aI => (some aI)) else (some false))
theorem spec_l1Knot.mono : ∀ a0 a1 a2 k, LeO (spec_l1Knot.f k a0 a1 a2) (spec_l1Knot.f (k + 1) a0 a1 a2) := by
 intro a0 a1 a2 k; unfold spec_l1Knot.f
 repeat' first | (with_reducible first | exact spec_NetOk.mono _ _ _ | exact LeO.refl _ | exact LeO.none _ | refine LeO.ite ?_ ?_ | refine LeO.bind ?_ (fun _ => ?_)) | exact spec_NetOk.mono _ _ _ | exact LeO.none _ | refine LeO.ite ?_ ?_ | refine LeO.bind ?_ (fun _ => ?_)
set_option maxHeartbeats 8000000 in
set_option maxRecDepth 100000 in
theorem spec_l1Knot.calls (k : Nat) (ac : Int) (aE : Option Addr) (aw : Nat) (aa : List (S63)) (a1 : Int) (r : Bool) (w : World) (a9 : Kd.C k63 w aE aa.length aa) (a_ : aa.length ≤ aw) (h : spec_l1Knot.f k ac aa a1 = some r) :
  Calls Try.prog 38 #[.agg #[.int .i64 ac, .slice aE aa.length aw], .int .i64 a1] w fun e w' => e = .returned (.bool r) ∧ Below w.heap.size w w' := by
 have b4 := Try.underlying29; have ba := G.m a9; have bo := G.m a_; clear a9 a_; have HB := G.m (Below.refl w.heap.size w); have H : ((spec_NetOk.f k ac aa).bind fun bh => (if bh = true then ((spec_l6In.f a1 0 (wrap64 (ac - 1))).bind fun aI => (some aI)) else (some false))) = some r := h; clear h; obtain ⟨bh, A3, H⟩ := G.bi H; replace H : (if bh = true then ((spec_l6In.f a1 0 (wrap64 (ac - 1))).bind fun aI => (some aI)) else (some false)) = some r := H
 by_cases c4 : bh = true
 ·subst c4; have H1 : ((spec_l6In.f a1 0 (wrap64 (ac - 1))).bind fun aI => (some aI)) = some r := by rw [if_pos rfl] at H; exact H
  clear H; have H := H1; clear H1; obtain ⟨aI, A5, H⟩ := G.bi H; replace H : (some aI) = some r := H; obtain rfl := Option.some.inj H
  go_enter Try.func38, Try.ntmps38
  go_wp2_with (first | ((with_reducible refine G.h 2 rfl ?_); refine G.be 2 #[.int .i64 ac, .slice aE aa.length aw] 29 ?_; intro bc hg w6 hbox hb; have n0 := G.bs HB hb; have n1 := G.m (hbox); have n2 := G.m (caam : w.heap.size ≤ bc); have n3 := G.m (caam : w.heap.size ≤ bc); clear HB; revert n0 n1 n2 n3; intro HB ay bU bV; clear hb hbox hg; have ⟨bI, bJ, bK, bL⟩ := G.d2 (w := w6) ay) | ((with_reducible refine G.f 46 rfl ?_); refine G.gL 6 Try.func46 #[.agg #[.int .i64 ac, .slice aE aa.length aw]] ?_; (with_reducible refine (spec_NetOk.calls k ac _ _ aa true _ ?side1 ?side2 A3.out).mono ?_); (case side1 => exact G.cC (Kd.C_below ba.out HB.out)); (case side2 => exact bo.out); rintro e w8 ⟨rfl, hb⟩; refine ⟨_, rfl, ?_⟩; have n0 := G.bb ay hb; have n1 := G.bs HB hb; clear ay HB; revert n0 n1; intro ay HB; (try clear hb); have ⟨bM, bN, bO, bP⟩ := G.d2 (w := w8) ay) | (go_at_call 60; (with_reducible refine (spec_l6In.calls a1 0 (wrap64 (ac - 1)) aI _ A5.out).mono ?_); rintro e w' ⟨rfl, ⟨nd, rfl⟩⟩))
  go_ret
  exact ⟨caao, G.cB HB.out⟩
 ·replace c4 := Bool.eq_false_iff.mpr c4; subst c4; have H1 : (some false) = some r := by rw [if_neg (show ¬ (false = true) by decide)] at H; exact H
  clear H; have H := H1; clear H1; obtain rfl := Option.some.inj H
  go_enter Try.func38, Try.ntmps38
  go_wp2_with (first | ((with_reducible refine G.h 2 rfl ?_); refine G.be 2 #[.int .i64 ac, .slice aE aa.length aw] 29 ?_; intro bc hg bQ hbox hb; have n0 := G.bs HB hb; have n1 := G.m (hbox); have n2 := G.m (caam : w.heap.size ≤ bc); have n3 := G.m (caam : w.heap.size ≤ bc); clear HB; revert n0 n1 n2 n3; intro HB ay bU bV; clear hb hbox hg; have ⟨ce, cf, cg, ch⟩ := G.d2 (w := bQ) ay) | ((with_reducible refine G.f 46 rfl ?_); refine G.gL 6 Try.func46 #[.agg #[.int .i64 ac, .slice aE aa.length aw]] ?_; (with_reducible refine (spec_NetOk.calls k ac _ _ aa false _ ?side1 ?side2 A3.out).mono ?_); (case side1 => exact G.cC (Kd.C_below ba.out HB.out)); (case side2 => exact bo.out); rintro e cq ⟨rfl, hb⟩; refine ⟨_, rfl, ?_⟩; have n0 := G.bb ay hb; have n1 := G.bs HB hb; clear ay HB; revert n0 n1; intro ay HB; (try clear hb)))
  go_ret
  exact ⟨caao, G.cB HB.out⟩

/-! ### spec_l1Tie: function 68 -/
def spec_l1Tie.f (a0 : Int) (a1 : Int) : Option (Int × Int) := if a0 < a1 then (some (a0, a1)) else (some (a1, a0))
set_option maxHeartbeats 8000000 in
set_option maxRecDepth 100000 in
theorem spec_l1Tie.calls (a0 : Int) (a1 : Int) (r1 : Int) (r2 : Int) (w : World) (h : spec_l1Tie.f a0 a1 = some (r1, r2)) :
  Calls Try.prog 68 #[.int .i64 a0, .int .i64 a1] w fun e w' => e = .returned (.agg #[.int .i64 r1, .int .i64 r2]) ∧ Below w.heap.size w w' := by
 have bw := Try.underlying63; have HB := G.m (Below.refl w.heap.size w); have H : (if a0 < a1 then (some (a0, a1)) else (some (a1, a0))) = some (r1, r2) := h; clear h
 by_cases c3 : a0 < a1
 ·rw [if_pos c3] at H; have bR : decide (a0 < a1) = true := decide_eq_true c3; clear c3; simp only [Option.some.injEq, Prod.mk.injEq] at H; obtain ⟨rfl, rfl⟩ := H
  go_enter Try.func68, Try.ntmps68
  go_wp2_with (first | ((with_reducible refine G.h 4 rfl ?_); refine G.be 4 #[.int .i64 0, .int .i64 0] 63 ?_; intro aR hg w4 hbox hb; have n0 := G.bs HB hb; have n1 := G.m (hbox); have n2 := G.m (caam : w.heap.size ≤ aR); have n3 := G.m (caam : w.heap.size ≤ aR); clear HB; revert n0 n1 n2 n3; intro HB bd bW bX; clear hb hbox hg; have ⟨cr, ct, cu, cv⟩ := G.d2 (w := w4) bd))
  refine bodyPost_ret (results_cell_row rfl _ _ aR 63 #[.int .i64 a0, .int .i64 a1] (0, 0) _ rfl (by (with_reducible repeat (first | refine blk_drewN ?_ _ | refine blk_drew ?_ | refine blk_alloc ?_ _)); refine blk_put (cs := #[.int .i64 a0, .int .i64 0]) ?_ 1 _ rfl; (with_reducible repeat (first | refine blk_drewN ?_ _ | refine blk_drew ?_ | refine blk_alloc ?_ _)); refine blk_put (cs := #[.int .i64 0, .int .i64 0]) ?_ 0 _ rfl; (with_reducible repeat (first | refine blk_drewN ?_ _ | refine blk_drew ?_ | refine blk_alloc ?_ _)); exact bd.out) Try.underlying63 rfl (caan)) rfl ?_; exact ⟨caao, G.cB HB.out⟩
 ·rw [if_neg c3] at H; have bR : decide (a0 < a1) = false := decide_eq_false c3; clear c3; simp only [Option.some.injEq, Prod.mk.injEq] at H; obtain ⟨rfl, rfl⟩ := H
  go_enter Try.func68, Try.ntmps68
  go_wp2_with (first | ((with_reducible refine G.h 4 rfl ?_); refine G.be 4 #[.int .i64 0, .int .i64 0] 63 ?_; intro aR hg w6 hbox hb; have n0 := G.bs HB hb; have n1 := G.m (hbox); have n2 := G.m (caam : w.heap.size ≤ aR); have n3 := G.m (caam : w.heap.size ≤ aR); clear HB; revert n0 n1 n2 n3; intro HB bd bW bX; clear hb hbox hg; have ⟨bI, bJ, bK, bL⟩ := G.d2 (w := w6) bd))
  refine bodyPost_ret (results_cell_row rfl _ _ aR 63 #[.int .i64 a1, .int .i64 a0] (0, 0) _ rfl (by (with_reducible repeat (first | refine blk_drewN ?_ _ | refine blk_drew ?_ | refine blk_alloc ?_ _)); refine blk_put (cs := #[.int .i64 a1, .int .i64 0]) ?_ 1 _ rfl; (with_reducible repeat (first | refine blk_drewN ?_ _ | refine blk_drew ?_ | refine blk_alloc ?_ _)); refine blk_put (cs := #[.int .i64 0, .int .i64 0]) ?_ 0 _ rfl; (with_reducible repeat (first | refine blk_drewN ?_ _ | refine blk_drew ?_ | refine blk_alloc ?_ _)); exact bd.out) Try.underlying63 rfl (caan)) rfl ?_; exact ⟨caao, G.cB HB.out⟩

/-! ### spec_l1Has: function 61 -/
def spec_l1Has.l0 : Nat → Int → Int → Int → Int → List (S63) → Option (Bool)
 | 0, _, _, _, _, _ => none
 | k + 1, x1, x2, x7, bG, aU => if x7 < (aU.length : Int) then (if 0 ≤ x7 then ((spec_l1Tie.f x1 x2).bind fun bE => (if (((rd_T63 aU x7).f0) == bE.1 && (((rd_T63 aU x7).f1) == bE.2)) = true then (some true) else (spec_l1Has.l0 k x1 x2 (wrap64 (x7 + 1)) bG aU))) else (none)) else (some false)
def spec_l1Has.f (k : Nat) (ac : Int) (aa : List (S63)) (a1 : Int) (a2 : Int) : Option (Bool) := spec_l1Has.l0 k a1 a2 0 ac aa
theorem spec_l1Has.mono_l : ∀ k, (∀ y0 y1 y2 y3 y4, LeO (spec_l1Has.l0 k y0 y1 y2 y3 y4) (spec_l1Has.l0 (k + 1) y0 y1 y2 y3 y4))
 | 0 => fun _ _ _ _ _ r h => by simp [spec_l1Has.l0] at h
 | k + 1 => by
  have az := spec_l1Has.mono_l k
  ·intro y0 y1 y2 y3 y4; unfold spec_l1Has.l0
   repeat' first
   | (with_reducible exact az _ _ _ _ _)
   | (with_reducible exact LeO.refl _)
   | (with_reducible exact LeO.none _)
   | (with_reducible refine LeO.ite ?_ ?_)
   | (with_reducible refine LeO.bind ?_ (fun _ => ?_))
   | exact az _ _ _ _ _
   | exact LeO.none _
   | refine LeO.ite ?_ ?_
   | refine LeO.bind ?_ (fun _ => ?_)
theorem spec_l1Has.mono : ∀ a0 a1 a2 a3 k, LeO (spec_l1Has.f k a0 a1 a2 a3) (spec_l1Has.f (k + 1) a0 a1 a2 a3) := by
 intro a0 a1 a2 a3 k; have az := spec_l1Has.mono_l k; unfold spec_l1Has.f
 repeat' first | (with_reducible first | exact az _ _ _ _ _ | exact LeO.refl _ | exact LeO.none _ | refine LeO.ite ?_ ?_ | refine LeO.bind ?_ (fun _ => ?_)) | exact az _ _ _ _ _ | exact LeO.none _ | refine LeO.ite ?_ ?_ | refine LeO.bind ?_ (fun _ => ?_)
def spec_l1Has.T4 : Bool × List (List Nat × List Nat) := (true, [([], []), ([0], [0]), ([], []), ([1, 2], [1, 2]), ([3], [3]), ([], []), ([], []), ([5, 6], [5, 6]), ([4, 7], [4, 7])])
def spec_l1Has.B4 : List Nat := [0, 1, 0, 7, 15, 0, 0, 96, 255]
theorem spec_l1Has.tab4 : rtab .any (opsOf Try.f61 4) = spec_l1Has.T4 := by kernel_rfl
theorem spec_l1Has.bits4 : waitsOk spec_l1Has.T4.2 spec_l1Has.B4 = true := by kernel_rfl
set_option maxHeartbeats 8000000 in
set_option maxRecDepth 100000 in
theorem spec_l1Has.calls (k : Nat) (ac : Int) (aE : Option Addr) (aw : Nat) (aa : List (S63)) (a1 : Int) (a2 : Int) (r : Bool) (w : World) (a9 : Kd.C k63 w aE aa.length aa) (a_ : aa.length ≤ aw) (h : spec_l1Has.f k ac aa a1 a2 = some r) :
  Calls Try.prog 61 #[.agg #[.int .i64 ac, .slice aE aa.length aw], .int .i64 a1, .int .i64 a2] w fun e w' => e = .returned (.bool r) ∧ Below w.heap.size w w' := by
 have b4 := Try.underlying29; have bw := Try.underlying63; have ba := G.m a9; have bo := G.m a_; clear a9 a_; have HB := G.m (Below.refl w.heap.size w); have H : (spec_l1Has.l0 k a1 a2 0 ac aa) = some r := h; clear h; have H' := G.m H; clear H
 go_enter Try.func61, Try.ntmps61
 go_wp2_with (first | ((with_reducible refine G.h 3 rfl ?_); refine G.be 3 #[.int .i64 ac, .slice aE aa.length aw] 29 ?_; intro aS hg w4 hbox hb; have n0 := G.bs HB hb; have n1 := G.m (hbox); have n2 := G.m (caam : w.heap.size ≤ aS); have n3 := G.m (caam : w.heap.size ≤ aS); clear HB; revert n0 n1 n2 n3; intro HB af cD cE; clear hb hbox hg))
 go_loopg [7] k (fun kq v7 w' => ∃ (ab : Int), v7 = .int .i64 ab ∧ Aside0 (spec_l1Has.l0 kq a1 a2 ab ac aa = some r) ∧ Aside0 (kq ≤ k) ∧ Aside0 (w'.heap[aS]? = some (.cells #[.int .i64 ac, (.slice aE aa.length aw)] 29 (0, 0))) ∧ Aside0 (Below w.heap.size w w'))
 case atStart => exact ⟨(0), (caal), H', ⟨Nat.le_refl _⟩, ⟨G.cb af.out⟩, ⟨G.cB HB.out⟩⟩
 case round =>
  clear H'; try clear p2
  obtain ⟨ab, rfl, HA, bj, af, HB⟩ := hrel; cases gk with
  | zero => exact absurd HA.out (by simp [spec_l1Has.l0])
  | succ k1 =>
   have H := HA.out; clear HA; simp only [spec_l1Has.l0] at H
   by_cases c5 : ab < (aa.length : Int)
   ·rw [if_pos c5] at H; have bp : decide (ab < (aa.length : Int)) = true := decide_eq_true c5; clear c5
    by_cases c6 : 0 ≤ ab
    ·rw [if_pos c6] at H; have b5 : decide (0 ≤ ab) = true := decide_eq_true c6; clear c6; obtain ⟨⟨aF, aG⟩, A7, H⟩ := G.bi H; replace H : (if (((rd_T63 aa ab).f0) == aF && (((rd_T63 aa ab).f1) == aG)) = true then (some true) else (spec_l1Has.l0 k1 a1 a2 (wrap64 (ab + 1)) ac aa)) = some r := H
     by_cases c8 : (((rd_T63 aa ab).f0) == aF && (((rd_T63 aa ab).f1) == aG)) = true
     ·rw [if_pos c8] at H; have bl : (((rd_T63 aa ab).f0) == aF && (((rd_T63 aa ab).f1) == aG)) = true := c8; (try (have b6 : decide (((rd_T63 aa ab).f0) = aF && (((rd_T63 aa ab).f1) == aG)) = true := by simpa using c8)); (try (have b7 : (((rd_T63 aa ab).f0) == aF && (((rd_T63 aa ab).f1) == aG)) = true := by simpa using c8)); clear c8; obtain rfl := Option.some.inj H; have ⟨bM, bN, bO, bP⟩ := G.d2 (w := wr) af; try go_wp2
      have n0 := G.m (blk_drew af.out); have n1 := G.m (below_drew1 HB.out); clear af HB; revert n0 n1; intro af HB; have aW : 0 ≤ (ab : Int) := of_decide_eq_true (G.asm); have aX : ab < (aa.length : Int) := of_decide_eq_true (G.asm); obtain ⟨aD, bx, al, am⟩ := at_T63 ba.out ab aW aX; have aL := am; have aM := al; cases bx; replace al := G.hx HB al; replace am := G.hx HB am; replace aW := eq_true aW; replace aX := eq_true aX; refine G.st 9 (S := fun w' => w'.cell? ⟨aS, 0, none⟩ = some (.int .i64 ac) ∧ w'.cell? ⟨aS, 1, none⟩ = some (.slice (some aD) aa.length aw) ∧ w'.cell? (aD.add ((ab).toNat * 2)) = some (.int .i64 ((rd_T63 aa ab).f0)) ∧ w'.cell? ⟨(aD.add ((ab).toNat * 2)).block, (aD.add ((ab).toNat * 2)).off + 1, none⟩ = some (.int .i64 ((rd_T63 aa ab).f1))) [] ⟨G.z af 0, G.z af 1, (G.hx HB aM), (G.hx HB aL)⟩ spec_l1Has.tab4 spec_l1Has.bits4 (fun hHeld HT_ HW_ => ?_); generalize wr.drew = bQ at af HB al am hHeld ⊢; refine G.pu 0 15 1 ?_; refine G.pu 2 17 5 ?_; refine G.pu 5 20 37 ?_; refine G.pu 6 21 101 ?_; refine G.ta4 1 16 103 ?_; refine G.pu 3 18 111 ?_; refine G.ta4 4 19 127 ?_; refine G.on 7 22 255 (fun K hK => ?_); refine G.gs Try.func68 #[.int .i64 a1, .int .i64 a2] ?_; with_reducible refine (spec_l1Tie.calls a1 a2 aF aG _ A7.out).mono ?_
      rintro e cw ⟨rfl, hb⟩; refine ⟨_, rfl, ?_⟩; have n0 := G.bb af hb; have n1 := G.bs HB hb; clear af HB; revert n0 n1; intro af HB; (try clear hb); refine hK.out _ _ ⟨G.z af 0, G.z af 1, (G.hx HB aM), (G.hx HB aL)⟩ (fun hHeld => ?_); clear hK K; refine G.no 22 ?_; refine G.pu 8 23 511 ?_; refine done_ (done_of HT_.out (caan)) ?_; try go_wp2
      go_ret
      exact ⟨caao, G.cB HB.out⟩
     ·rw [if_neg c8] at H; have bl : (((rd_T63 aa ab).f0) == aF && (((rd_T63 aa ab).f1) == aG)) = false := by simpa using c8
      (try (have b6 : decide (((rd_T63 aa ab).f0) = aF && (((rd_T63 aa ab).f1) == aG)) = false := by simpa using c8)); (try (have b7 : (((rd_T63 aa ab).f0) == aF && (((rd_T63 aa ab).f1) == aG)) = false := by simpa using c8)); (try (have cL : ¬ (((rd_T63 aa ab).f0) = aF && (((rd_T63 aa ab).f1) == aG)) := by simpa using c8)); clear c8; have H' := G.m H; clear H; have ⟨ci, cj, ck, cl⟩ := G.d2 (w := wr) af; try go_wp2
      have n0 := G.m (blk_drew af.out); have n1 := G.m (below_drew1 HB.out); clear af HB; revert n0 n1; intro af HB; have aW : 0 ≤ (ab : Int) := of_decide_eq_true (G.asm); have aX : ab < (aa.length : Int) := of_decide_eq_true (G.asm); obtain ⟨aD, bx, al, am⟩ := at_T63 ba.out ab aW aX; have aL := am; have aM := al; cases bx; replace al := G.hx HB al; replace am := G.hx HB am; replace aW := eq_true aW; replace aX := eq_true aX; refine G.st 9 (S := fun w' => w'.cell? ⟨aS, 0, none⟩ = some (.int .i64 ac) ∧ w'.cell? ⟨aS, 1, none⟩ = some (.slice (some aD) aa.length aw) ∧ w'.cell? (aD.add ((ab).toNat * 2)) = some (.int .i64 ((rd_T63 aa ab).f0)) ∧ w'.cell? ⟨(aD.add ((ab).toNat * 2)).block, (aD.add ((ab).toNat * 2)).off + 1, none⟩ = some (.int .i64 ((rd_T63 aa ab).f1))) [] ⟨G.z af 0, G.z af 1, (G.hx HB aM), (G.hx HB aL)⟩ spec_l1Has.tab4 spec_l1Has.bits4 (fun hHeld HT_ HW_ => ?_); generalize wr.drew = cN at af HB al am hHeld ⊢; refine G.pu 0 15 1 ?_; refine G.pu 2 17 5 ?_; refine G.pu 5 20 37 ?_; refine G.pu 6 21 101 ?_; refine G.ta4 1 16 103 ?_; refine G.pu 3 18 111 ?_; refine G.ta4 4 19 127 ?_; refine G.on 7 22 255 (fun K hK => ?_); refine G.gs Try.func68 #[.int .i64 a1, .int .i64 a2] ?_; with_reducible refine (spec_l1Tie.calls a1 a2 aF aG _ A7.out).mono ?_
      rintro e cO ⟨rfl, hb⟩; refine ⟨_, rfl, ?_⟩; have n0 := G.bb af hb; have n1 := G.bs HB hb; clear af HB; revert n0 n1; intro af HB; (try clear hb); refine hK.out _ _ ⟨G.z af 0, G.z af 1, (G.hx HB aM), (G.hx HB aL)⟩ (fun hHeld => ?_); clear hK K; refine G.no 22 ?_; refine G.pu 8 23 511 ?_; refine done_ (done_of HT_.out (caan)) ?_; try go_wp2
      go_roundg k1
      case measure => have := bj.out; omega
      case rel => exact ⟨(wrap64 (ab + 1)), (caal), H', ⟨by have := bj.out; omega⟩, ⟨G.cb af.out⟩, ⟨G.cB HB.out⟩⟩
    ·rw [if_neg c6] at H; exact absurd H (by simp)
   ·rw [if_neg c5] at H; have bp : decide (ab < (aa.length : Int)) = false := decide_eq_false c5; clear c5; obtain rfl := Option.some.inj H; have ⟨cm, cn, co, cp⟩ := G.d2 (w := wr) af
    go_wp2
    go_ret
    exact ⟨caao, G.cB HB.out⟩

/-! ### cmp_Or_int: function 79 -/
def cmp_Or_int.l0 : Nat → Int → List Int → Int → Int → Option (Int)
 | 0, _, _, _, _ => none
 | k + 1, x3, x6, x7, x8 => if x8 < x7 then (if 0 ≤ x8 then (if x8 < (x6.length : Int) then (if (rd x6 x8) = x3 then (cmp_Or_int.l0 k x3 x6 x7 (wrap64 (x8 + 1))) else (some (rd x6 x8))) else (none)) else (none)) else (some x3)
def cmp_Or_int.f (k : Nat) (l0 : List Int) : Option (Int) := cmp_Or_int.l0 k 0 l0 (l0.length : Int) 0
theorem cmp_Or_int.mono_l : ∀ k, (∀ y0 y1 y2 y3, LeO (cmp_Or_int.l0 k y0 y1 y2 y3) (cmp_Or_int.l0 (k + 1) y0 y1 y2 y3))
 | 0 => fun _ _ _ _ r h => by simp [cmp_Or_int.l0] at h
 | k + 1 => by
  have az := cmp_Or_int.mono_l k
  ·intro y0 y1 y2 y3; unfold cmp_Or_int.l0
   repeat' first
   | (with_reducible exact az _ _ _ _)
   | (with_reducible exact LeO.refl _)
   | (with_reducible exact LeO.none _)
   | (with_reducible refine LeO.ite ?_ ?_)
   | (with_reducible refine LeO.bind ?_ (fun _ => ?_))
   | exact az _ _ _ _
   | exact LeO.none _
   | refine LeO.ite ?_ ?_
   | refine LeO.bind ?_ (fun _ => ?_)
theorem cmp_Or_int.mono : ∀ a0 k, LeO (cmp_Or_int.f k a0) (cmp_Or_int.f (k + 1) a0) := by
 intro a0 k; have az := cmp_Or_int.mono_l k; unfold cmp_Or_int.f
 repeat' first | (with_reducible first | exact az _ _ _ _ | exact LeO.refl _ | exact LeO.none _ | refine LeO.ite ?_ ?_ | refine LeO.bind ?_ (fun _ => ?_)) | exact az _ _ _ _ | exact LeO.none _ | refine LeO.ite ?_ ?_ | refine LeO.bind ?_ (fun _ => ?_)
set_option maxHeartbeats 8000000 in
set_option maxRecDepth 100000 in
theorem cmp_Or_int.calls (k : Nat) (A0 : Option Addr) (c0 : Nat) (l0 : List Int) (r : Int) (w : World) (bu : Kd.C (Kd.int .i64) w A0 l0.length l0) (bv : l0.length ≤ c0) (h : cmp_Or_int.f k l0 = some r) :
  Calls Try.prog 79 #[.slice A0 l0.length c0] w fun e w' => e = .returned (.int .i64 r) ∧ Drawn0 w w' := by
 have bm := G.m bu; have cx := G.m bv; clear bu bv; have H : (cmp_Or_int.l0 k 0 l0 (l0.length : Int) 0) = some r := h; clear h; have H' := G.m H; clear H
 go_enter Try.func79, Try.ntmps79
 go_wp2
 go_loopg [8] k (fun kq v8 w' => ∃ (ai : Int), v8 = .int .i64 ai ∧ Aside0 (cmp_Or_int.l0 kq 0 l0 (l0.length : Int) ai = some r) ∧ Aside0 (kq ≤ k) ∧ Drawn0 w w')
 case atStart => exact ⟨(0), (caal), H', ⟨Nat.le_refl _⟩, by repeat (first | exact Drawn0.refl _ | apply Drawn0.step)⟩
 case round =>
  clear H'; obtain ⟨ai, rfl, HA, bj, ⟨m1, rfl⟩⟩ := hrel; cases gk with
  | zero => exact absurd HA.out (by simp [cmp_Or_int.l0])
  | succ k1 =>
   have H := HA.out; clear HA; simp only [cmp_Or_int.l0] at H
   by_cases c2 : ai < (l0.length : Int)
   ·rw [if_pos c2] at H; have bz : decide (ai < (l0.length : Int)) = true := decide_eq_true c2; clear c2
    by_cases c3 : 0 ≤ ai
    ·rw [if_pos c3] at H; have bR : decide (0 ≤ ai) = true := decide_eq_true c3; clear c3
     by_cases c4 : ai < (l0.length : Int)
     ·rw [if_pos c4] at H; have b8 : decide (ai < (l0.length : Int)) = true := decide_eq_true c4; clear c4
      by_cases c5 : (rd l0 ai) = 0
      ·rw [if_pos c5] at H; have bp : ((rd l0 ai) == 0) = true := beq_iff_eq.mpr c5; have b9 : ((rd l0 ai) != 0) = false := bne_eq_false_iff_eq.mpr c5; clear c5; have H' := G.m H; clear H; have aY : 0 ≤ (ai : Int) := of_decide_eq_true (G.asm); have aZ : ai < (l0.length : Int) := of_decide_eq_true (G.asm); obtain ⟨bY, bA, bH⟩ := Kd.at_int bm.out ai aY aZ; cases bA; replace aY := eq_true aY; replace aZ := eq_true aZ
       go_wp2
       go_roundg k1
       case measure => have := bj.out; omega
       case rel => exact ⟨(wrap64 (ai + 1)), (caal), H', ⟨by have := bj.out; omega⟩, by repeat (first | exact Drawn0.refl _ | apply Drawn0.step)⟩
      ·rw [if_neg c5] at H; have bp : ((rd l0 ai) == 0) = false := beq_eq_false_iff_ne.mpr c5; have b9 : ((rd l0 ai) != 0) = true := bne_iff_ne.mpr c5; obtain rfl := Option.some.inj H; have aY : 0 ≤ (ai : Int) := of_decide_eq_true (G.asm); have aZ : ai < (l0.length : Int) := of_decide_eq_true (G.asm); obtain ⟨bY, bA, bH⟩ := Kd.at_int bm.out ai aY aZ; cases bA; replace aY := eq_true aY; replace aZ := eq_true aZ
       go_wp2
       go_ret
       exact ⟨caal, by repeat (first | exact Drawn0.refl _ | apply Drawn0.step)⟩
     ·rw [if_neg c4] at H; exact absurd H (by simp)
    ·rw [if_neg c3] at H; exact absurd H (by simp)
   ·rw [if_neg c2] at H; have bz : decide (ai < (l0.length : Int)) = false := decide_eq_false c2; clear c2; obtain rfl := Option.some.inj H
    go_wp2
    go_ret
    exact ⟨caal, by repeat (first | exact Drawn0.refl _ | apply Drawn0.step)⟩

/-! ### cmp_isNaN_int: function 81 -/
def cmp_isNaN_int.f (a0 : Int) : Option (Bool) := some (a0 != a0)
set_option maxHeartbeats 8000000 in
set_option maxRecDepth 100000 in
theorem cmp_isNaN_int.calls (a0 : Int) (r : Bool) (w : World) (h : cmp_isNaN_int.f a0 = some r) :
  Calls Try.prog 81 #[.int .i64 a0] w fun e w' => e = .returned (.bool r) ∧ Drawn0 w w' := by
 have H : (some (a0 != a0)) = some r := h; clear h; obtain rfl := Option.some.inj H
 go_enter Try.func81, Try.ntmps81
 go_wp2
 go_ret
 exact ⟨caal, by repeat (first | exact Drawn0.refl _ | apply Drawn0.step)⟩

/-! ### cmp_Compare_int: function 80 -/
def cmp_Compare_int.f (a0 : Int) (a1 : Int) : Option (Int) := (cmp_isNaN_int.f a0).bind fun a4 => ((cmp_isNaN_int.f a1).bind fun av => (if a4 = true then (if av = true then (some 0) else (some (-1))) else (if av = true then (some 1) else (if a0 < a1 then (some (-1)) else (if a0 > a1 then (some 1) else (some 0))))))
set_option maxHeartbeats 8000000 in
set_option maxRecDepth 100000 in
theorem cmp_Compare_int.calls (a0 : Int) (a1 : Int) (r : Int) (w : World) (h : cmp_Compare_int.f a0 a1 = some r) :
  Calls Try.prog 80 #[.int .i64 a0, .int .i64 a1] w fun e w' => e = .returned (.int .i64 r) ∧ Drawn0 w w' := by
 have H : ((cmp_isNaN_int.f a0).bind fun a4 => ((cmp_isNaN_int.f a1).bind fun av => (if a4 = true then (if av = true then (some 0) else (some (-1))) else (if av = true then (some 1) else (if a0 < a1 then (some (-1)) else (if a0 > a1 then (some 1) else (some 0))))))) = some r := h; clear h; obtain ⟨a4, A3, H⟩ := G.bi H; replace H : ((cmp_isNaN_int.f a1).bind fun av => (if a4 = true then (if av = true then (some 0) else (some (-1))) else (if av = true then (some 1) else (if a0 < a1 then (some (-1)) else (if a0 > a1 then (some 1) else (some 0)))))) = some r := H; obtain ⟨av, A4, H⟩ := G.bi H; replace H : (if a4 = true then (if av = true then (some 0) else (some (-1))) else (if av = true then (some 1) else (if a0 < a1 then (some (-1)) else (if a0 > a1 then (some 1) else (some 0))))) = some r := H
 by_cases c5 : a4 = true
 ·subst c5; have H1 : (if av = true then (some 0) else (some (-1))) = some r := by rw [if_pos rfl] at H; exact H
  clear H; have H := H1; clear H1
  by_cases c6 : av = true
  ·subst c6; have H1 : (some 0) = some r := by rw [if_pos rfl] at H; exact H
   clear H; have H := H1; clear H1; obtain rfl := Option.some.inj H
   go_enter Try.func80, Try.ntmps80
   go_wp2_with (first | ((with_reducible refine G.f 81 rfl ?_); refine G.gL 8 Try.func81 #[.int .i64 a0] ?_; (with_reducible refine (cmp_isNaN_int.calls a0 true _ A3.out).mono ?_); rintro e w' ⟨rfl, ⟨nd, rfl⟩⟩; refine ⟨_, rfl, ?_⟩) | ((with_reducible refine G.f 81 rfl ?_); refine G.gL 10 Try.func81 #[.int .i64 a1] ?_; (with_reducible refine (cmp_isNaN_int.calls a1 true _ A4.out).mono ?_); rintro e w' ⟨rfl, ⟨nd, rfl⟩⟩; refine ⟨_, rfl, ?_⟩))
   go_ret
   exact ⟨caal, by repeat (first | exact Drawn0.refl _ | apply Drawn0.step)⟩
  ·replace c6 := Bool.eq_false_iff.mpr c6; subst c6; have H1 : (some (-1)) = some r := by rw [if_neg (show ¬ (false = true) by decide)] at H; exact H
   clear H; have H := H1; clear H1; obtain rfl := Option.some.inj H
   go_enter Try.func80, Try.ntmps80
   go_wp2_with (first | ((with_reducible refine G.f 81 rfl ?_); refine G.gL 8 Try.func81 #[.int .i64 a0] ?_; (with_reducible refine (cmp_isNaN_int.calls a0 true _ A3.out).mono ?_); rintro e w' ⟨rfl, ⟨nd, rfl⟩⟩; refine ⟨_, rfl, ?_⟩) | ((with_reducible refine G.f 81 rfl ?_); refine G.gL 10 Try.func81 #[.int .i64 a1] ?_; (with_reducible refine (cmp_isNaN_int.calls a1 false _ A4.out).mono ?_); rintro e w' ⟨rfl, ⟨nd, rfl⟩⟩; refine ⟨_, rfl, ?_⟩))
   go_ret
   exact ⟨caal, by repeat (first | exact Drawn0.refl _ | apply Drawn0.step)⟩
 ·replace c5 := Bool.eq_false_iff.mpr c5; subst c5; have H1 : (if av = true then (some 1) else (if a0 < a1 then (some (-1)) else (if a0 > a1 then (some 1) else (some 0)))) = some r := by rw [if_neg (show ¬ (false = true) by decide)] at H; exact H
  clear H; have H := H1; clear H1
  by_cases c7 : av = true
  ·subst c7; have H1 : (some 1) = some r := by rw [if_pos rfl] at H; exact H
   clear H; have H := H1; clear H1; obtain rfl := Option.some.inj H
   go_enter Try.func80, Try.ntmps80
   go_wp2_with (first | ((with_reducible refine G.f 81 rfl ?_); refine G.gL 8 Try.func81 #[.int .i64 a0] ?_; (with_reducible refine (cmp_isNaN_int.calls a0 false _ A3.out).mono ?_); rintro e w' ⟨rfl, ⟨nd, rfl⟩⟩; refine ⟨_, rfl, ?_⟩) | ((with_reducible refine G.f 81 rfl ?_); refine G.gL 10 Try.func81 #[.int .i64 a1] ?_; (with_reducible refine (cmp_isNaN_int.calls a1 true _ A4.out).mono ?_); rintro e w' ⟨rfl, ⟨nd, rfl⟩⟩; refine ⟨_, rfl, ?_⟩))
   go_ret
   exact ⟨caal, by repeat (first | exact Drawn0.refl _ | apply Drawn0.step)⟩
  ·replace c7 := Bool.eq_false_iff.mpr c7; subst c7; have H1 : (if a0 < a1 then (some (-1)) else (if a0 > a1 then (some 1) else (some 0))) = some r := by rw [if_neg (show ¬ (false = true) by decide)] at H; exact H
   clear H; have H := H1; clear H1
   by_cases c8 : a0 < a1
   ·rw [if_pos c8] at H; have bl : decide (a0 < a1) = true := decide_eq_true c8; clear c8; obtain rfl := Option.some.inj H
    go_enter Try.func80, Try.ntmps80
    go_wp2_with (first | ((with_reducible refine G.f 81 rfl ?_); refine G.gL 8 Try.func81 #[.int .i64 a0] ?_; (with_reducible refine (cmp_isNaN_int.calls a0 false _ A3.out).mono ?_); rintro e w' ⟨rfl, ⟨nd, rfl⟩⟩; refine ⟨_, rfl, ?_⟩) | ((with_reducible refine G.f 81 rfl ?_); refine G.gL 10 Try.func81 #[.int .i64 a1] ?_; (with_reducible refine (cmp_isNaN_int.calls a1 false _ A4.out).mono ?_); rintro e w' ⟨rfl, ⟨nd, rfl⟩⟩; refine ⟨_, rfl, ?_⟩))
    go_ret
    exact ⟨caal, by repeat (first | exact Drawn0.refl _ | apply Drawn0.step)⟩
   ·rw [if_neg c8] at H; have bl : decide (a0 < a1) = false := decide_eq_false c8; clear c8
    by_cases c9 : a0 > a1
    ·rw [if_pos c9] at H; have b_ : decide (a1 < a0) = true := decide_eq_true c9; clear c9; obtain rfl := Option.some.inj H
     go_enter Try.func80, Try.ntmps80
     go_wp2_with (first | ((with_reducible refine G.f 81 rfl ?_); refine G.gL 8 Try.func81 #[.int .i64 a0] ?_; (with_reducible refine (cmp_isNaN_int.calls a0 false _ A3.out).mono ?_); rintro e w' ⟨rfl, ⟨nd, rfl⟩⟩; refine ⟨_, rfl, ?_⟩) | ((with_reducible refine G.f 81 rfl ?_); refine G.gL 10 Try.func81 #[.int .i64 a1] ?_; (with_reducible refine (cmp_isNaN_int.calls a1 false _ A4.out).mono ?_); rintro e w' ⟨rfl, ⟨nd, rfl⟩⟩; refine ⟨_, rfl, ?_⟩))
     go_ret
     exact ⟨caal, by repeat (first | exact Drawn0.refl _ | apply Drawn0.step)⟩
    ·rw [if_neg c9] at H; have b_ : decide (a1 < a0) = false := decide_eq_false c9; clear c9; obtain rfl := Option.some.inj H
     go_enter Try.func80, Try.ntmps80
     go_wp2_with (first | ((with_reducible refine G.f 81 rfl ?_); refine G.gL 8 Try.func81 #[.int .i64 a0] ?_; (with_reducible refine (cmp_isNaN_int.calls a0 false _ A3.out).mono ?_); rintro e w' ⟨rfl, ⟨nd, rfl⟩⟩; refine ⟨_, rfl, ?_⟩) | ((with_reducible refine G.f 81 rfl ?_); refine G.gL 10 Try.func81 #[.int .i64 a1] ?_; (with_reducible refine (cmp_isNaN_int.calls a1 false _ A4.out).mono ?_); rintro e w' ⟨rfl, ⟨nd, rfl⟩⟩; refine ⟨_, rfl, ?_⟩))
     go_ret
     exact ⟨caal, by repeat (first | exact Drawn0.refl _ | apply Drawn0.step)⟩

/-! ### impl_tieOrder: function 74 -/
def impl_tieOrder.f (k : Nat) (ac : Int) (aA : Int) (aT : Int) (aJ : Int) : Option (Int) := (cmp_Compare_int.f ac aT).bind fun aB => ((cmp_Compare_int.f aA aJ).bind fun ax => ((cmp_Or_int.f k (([aB, ax] : List Int))).bind fun aC => (some aC)))
theorem impl_tieOrder.mono : ∀ a0 a1 a2 a3 k, LeO (impl_tieOrder.f k a0 a1 a2 a3) (impl_tieOrder.f (k + 1) a0 a1 a2 a3) := by
 intro a0 a1 a2 a3 k; unfold impl_tieOrder.f
 repeat' first | (with_reducible first | exact cmp_Or_int.mono _ _ | exact LeO.refl _ | exact LeO.none _ | refine LeO.ite ?_ ?_ | refine LeO.bind ?_ (fun _ => ?_)) | exact cmp_Or_int.mono _ _ | exact LeO.none _ | refine LeO.ite ?_ ?_ | refine LeO.bind ?_ (fun _ => ?_)
def impl_tieOrder.T1 : Bool × List (List Nat × List Nat) := (true, [([], []), ([0], [0]), ([], []), ([2], [2]), ([1, 3], [1, 3]), ([], []), ([5], [5]), ([], []), ([7], [7]), ([6, 8, 4], [6, 8]), ([4, 9], [4, 9]), ([10, 9], [10]), ([11, 11, 0, 1, 2, 3, 4, 5, 6, 7, 8, 9, 10, 11], [11])])
def impl_tieOrder.B1 : List Nat := [0, 1, 0, 4, 15, 0, 32, 0, 128, 511, 1023, 2047, 4095]
theorem impl_tieOrder.tab1 : rtab .any (opsOf Try.f74 1) = impl_tieOrder.T1 := by kernel_rfl
theorem impl_tieOrder.bits1 : waitsOk impl_tieOrder.T1.2 impl_tieOrder.B1 = true := by kernel_rfl
set_option maxHeartbeats 8000000 in
set_option maxRecDepth 100000 in
theorem impl_tieOrder.calls (k : Nat) (ac : Int) (aA : Int) (aT : Int) (aJ : Int) (r : Int) (w : World) (h : impl_tieOrder.f k ac aA aT aJ = some r) :
  Calls Try.prog 74 #[.agg #[.int .i64 ac, .int .i64 aA], .agg #[.int .i64 aT, .int .i64 aJ]] w fun e w' => e = .returned (.int .i64 r) ∧ Below w.heap.size w w' := by
 have bw := Try.underlying63; have HB := G.m (Below.refl w.heap.size w); have H : ((cmp_Compare_int.f ac aT).bind fun aB => ((cmp_Compare_int.f aA aJ).bind fun ax => ((cmp_Or_int.f k (([aB, ax] : List Int))).bind fun aC => (some aC)))) = some r := h; clear h; obtain ⟨aB, A3, H⟩ := G.bi H; replace H : ((cmp_Compare_int.f aA aJ).bind fun ax => ((cmp_Or_int.f k (([aB, ax] : List Int))).bind fun aC => (some aC))) = some r := H; obtain ⟨ax, A4, H⟩ := G.bi H; replace H : ((cmp_Or_int.f k (([aB, ax] : List Int))).bind fun aC => (some aC)) = some r := H; obtain ⟨bB, bf⟩ : ∃ y_ : List Int, y_ = (([aB, ax] : List Int)) := ⟨_, rfl⟩; replace H : ((cmp_Or_int.f k bB).bind fun aC => (some aC)) = some r := by first | (rw [bf]; with_reducible exact H) | (have bS := (Option.bind_some _ _).symm.trans H; rw [bf]; with_reducible exact bS) | (have bS := (Option.bind_some _ _).symm.trans H; with_reducible exact bS) | with_reducible exact H | (rw [bf]; exact H) | exact H
 have bF := G.m bf; clear bf; obtain ⟨aC, A5, H⟩ := G.bi H; replace H : (some aC) = some r := H; obtain rfl := Option.some.inj H
 go_enter Try.func74, Try.ntmps74; try go_wp2_with (first | ((with_reducible refine G.h 2 rfl ?_); refine G.be 2 #[.int .i64 ac, .int .i64 aA] 63 ?_; intro aH hg w6 hbox hb; have n0 := G.bs HB hb; have n1 := G.m (hbox); have n2 := G.m (caam : w.heap.size ≤ aH); have n3 := G.m (caam : w.heap.size ≤ aH); clear HB; revert n0 n1 n2 n3; intro HB ag cF cG; clear hb hbox hg) | ((with_reducible refine G.h 3 rfl ?_); refine G.be 3 #[.int .i64 aT, .int .i64 aJ] 63 ?_; intro aV hg w7 hbox hb; have n0 := G.bb ag hb; have n1 := G.bs HB hb; have n2 := G.m (hbox); have n3 := G.m (caam : w.heap.size ≤ aV); have n4 := G.m (caam : w.heap.size ≤ aV); have n5 := G.m ((by rw [hg]; exact Nat.ne_of_lt (blk_lt (g := aH) (o := .cells #[.int .i64 ac, .int .i64 aA] 63 (0, 0)) (G.cb ag.out)) : aH ≠ aV)); have n6 := G.m ((by rw [hg]; exact Nat.ne_of_gt (blk_lt (g := aH) (o := .cells #[.int .i64 ac, .int .i64 aA] 63 (0, 0)) (G.cb ag.out)) : aV ≠ aH)); clear ag HB; revert n0 n1 n2 n3 n4 n5 n6; intro ag HB aj cH cI bZ b1; clear hb hbox hg))
 have n0 := G.m (blk_drew ag.out); have n1 := G.m (blk_drew aj.out); have n2 := G.m (below_drew1 HB.out); clear ag aj HB; revert n0 n1 n2; intro ag aj HB; refine G.st 13 (S := fun w' => w'.cell? ⟨aH, 0, none⟩ = some (.int .i64 ac) ∧ w'.cell? ⟨aH, 1, none⟩ = some (.int .i64 aA) ∧ w'.cell? ⟨aV, 0, none⟩ = some (.int .i64 aT) ∧ w'.cell? ⟨aV, 1, none⟩ = some (.int .i64 aJ)) [] ⟨G.z ag 0, G.z ag 1, G.z aj 0, G.z aj 1⟩ impl_tieOrder.tab1 impl_tieOrder.bits1 (fun hHeld HT_ HW_ => ?_); generalize w7.drew = w8 at ag aj HB hHeld ⊢; refine G.pu 0 5 1 ?_; refine G.pu 2 7 5 ?_; refine G.pu 5 10 37 ?_; refine G.pu 7 12 165 ?_; refine G.ta4 1 6 167 ?_; refine G.ta4 3 8 175 ?_; refine G.ta4 6 11 239 ?_; refine G.ta4 8 13 495 ?_; refine G.on 4 9 511 (fun K hK => ?_); refine G.gs Try.func80 #[.int .i64 ac, .int .i64 aT] ?_; with_reducible refine (cmp_Compare_int.calls ac aT aB _ A3.out).mono ?_
 rintro e w' ⟨rfl, ⟨nd, rfl⟩⟩; refine ⟨_, rfl, ?_⟩; refine hK.out _ _ ⟨G.z ag 0, G.z ag 1, G.z aj 0, G.z aj 1⟩ (fun hHeld => ?_); clear hK K; refine G.no 9 ?_; refine G.on 9 14 1023 (fun K hK => ?_); refine G.gs Try.func80 #[.int .i64 aA, .int .i64 aJ] ?_; with_reducible refine (cmp_Compare_int.calls aA aJ ax _ A4.out).mono ?_
 rintro e w' ⟨rfl, ⟨nd, rfl⟩⟩; refine ⟨_, rfl, ?_⟩; refine hK.out _ _ ⟨G.z ag 0, G.z ag 1, G.z aj 0, G.z aj 1⟩ (fun hHeld => ?_); clear hK K; refine G.no 14 ?_; refine G.on 10 15 2047 (fun K hK => ?_); refine Kd.R_lit_step (Kd.int .i64) _ 3 ?hg (N := 15) ?hd (xs := ([aB, ax] : List Int)) (inner := [.int .i64 aB, .int .i64 ax]) (ok := fun _ => True) (okp := fun _ => True) ?hr ?hp (fun _ hk => hk) trivial (Below.refl _ _) (Nat.le_refl _) (by simp) ?_; (case hd => rfl); (case hg => rfl); (case hr => first | (go_simp; done) | (go_simp; rfl)); (case hp => exact (Reps.one (show Kd.M (Kd.int .i64) _ _ _ aB [.int .i64 aB] from rfl) (Reps.one (show Kd.M (Kd.int .i64) _ _ _ ax [.int .i64 ax] from rfl) (Reps.none _ _)))); intro cM w9 bn hb hg_ hnew_; clear hg_ hnew_; (first | rw [← bF.out] at bn | (simp only [Int.reduceToNat] at bn; rw [← bF.out] at bn)); have n0 := G.m (Kd.R_lower bn (below_size (G.cB HB.out))); have n1 := G.bb ag hb; have n2 := G.bb aj hb; have n3 := G.bs HB hb; clear ag aj HB; revert n0 n1 n2 n3; intro bq ag aj HB; clear hb bn; obtain ⟨ca, cd, bT⟩ := Kd.R_slice bq.out; (first | subst bT | (injection bT with b2 cy b3; have cz := b2.symm; have cA := b3.symm; clear b2 cy b3; subst cz; subst cA)); refine hK.out _ _ ⟨G.z ag 0, G.z ag 1, G.z aj 0, G.z aj 1⟩ (fun hHeld => ?_); clear hK K; refine G.no 15 ?_; refine G.on 11 16 4095 (fun K hK => ?_); refine G.gs Try.func79 #[.slice ca bB.length cd] ?_; with_reducible refine (cmp_Or_int.calls k _ _ bB aC _ ?side1 ?side2 A5.out).mono ?_
 (case side1 => exact G.cC (Kd.R_reads' bq.out).2.2); (case side2 => exact (Kd.R_reads' bq.out).2.1); rintro e w' ⟨rfl, ⟨nd, rfl⟩⟩; refine ⟨_, rfl, ?_⟩; refine hK.out _ _ ⟨G.z ag 0, G.z ag 1, G.z aj 0, G.z aj 1⟩ (fun hHeld => ?_); clear hK K; refine G.no 16 ?_; refine G.pu 12 4 8191 ?_; refine done_ (done_of HT_.out (caan)) ?_; try go_wp2
 go_ret
 exact ⟨caao, G.cB HB.out⟩

/-! ### impl_ascending: function 63 -/
def impl_ascending.l0 : Nat → List (S63) → Int → Option (Bool)
 | 0, _, _ => none
 | k + 1, x0, x3 => if x3 < (x0.length : Int) then (if 0 ≤ (wrap64 (x3 - 1)) then (if (wrap64 (x3 - 1)) < (x0.length : Int) then (if 0 ≤ x3 then ((impl_tieOrder.f k ((rd_T63 x0 (wrap64 (x3 - 1))).f0) ((rd_T63 x0 (wrap64 (x3 - 1))).f1) ((rd_T63 x0 x3).f0) ((rd_T63 x0 x3).f1)).bind fun aK => (if aK ≥ 0 then (some false) else (impl_ascending.l0 k x0 (wrap64 (x3 + 1))))) else (none)) else (none)) else (none)) else (some true)
def impl_ascending.f (k : Nat) (l0 : List (S63)) : Option (Bool) := impl_ascending.l0 k l0 1
theorem impl_ascending.mono_l : ∀ k, (∀ y0 y1, LeO (impl_ascending.l0 k y0 y1) (impl_ascending.l0 (k + 1) y0 y1))
 | 0 => fun _ _ r h => by simp [impl_ascending.l0] at h
 | k + 1 => by
  have az := impl_ascending.mono_l k
  ·intro y0 y1; unfold impl_ascending.l0
   repeat' first
   | (with_reducible exact az _ _)
   | (with_reducible exact impl_tieOrder.mono _ _ _ _ _)
   | (with_reducible exact LeO.refl _)
   | (with_reducible exact LeO.none _)
   | (with_reducible refine LeO.ite ?_ ?_)
   | (with_reducible refine LeO.bind ?_ (fun _ => ?_))
   | exact az _ _
   | exact impl_tieOrder.mono _ _ _ _ _
   | exact LeO.none _
   | refine LeO.ite ?_ ?_
   | refine LeO.bind ?_ (fun _ => ?_)
theorem impl_ascending.mono : ∀ a0 k, LeO (impl_ascending.f k a0) (impl_ascending.f (k + 1) a0) := by
 intro a0 k; have az := impl_ascending.mono_l k; unfold impl_ascending.f
 repeat' first | (with_reducible first | exact az _ _ | exact impl_tieOrder.mono _ _ _ _ _ | exact LeO.refl _ | exact LeO.none _ | refine LeO.ite ?_ ?_ | refine LeO.bind ?_ (fun _ => ?_)) | exact az _ _ | exact impl_tieOrder.mono _ _ _ _ _ | exact LeO.none _ | refine LeO.ite ?_ ?_ | refine LeO.bind ?_ (fun _ => ?_)
def impl_ascending.T4 : Bool × List (List Nat × List Nat) := (true, [([], []), ([], []), ([1], [1]), ([0, 2], [0, 2]), ([3], [3]), ([], []), ([], []), ([5, 6], [5, 6]), ([7], [7]), ([4, 8], [4, 8]), ([9], [9])])
def impl_ascending.B4 : List Nat := [0, 0, 2, 7, 15, 0, 0, 96, 224, 511, 1023]
theorem impl_ascending.tab4 : rtab .any (opsOf Try.f63 4) = impl_ascending.T4 := by kernel_rfl
theorem impl_ascending.bits4 : waitsOk impl_ascending.T4.2 impl_ascending.B4 = true := by kernel_rfl
set_option maxHeartbeats 8000000 in
set_option maxRecDepth 100000 in
theorem impl_ascending.calls (k : Nat) (A0 : Option Addr) (c0 : Nat) (l0 : List (S63)) (r : Bool) (w : World) (bu : Kd.C k63 w A0 l0.length l0) (bv : l0.length ≤ c0) (h : impl_ascending.f k l0 = some r) :
  Calls Try.prog 63 #[.slice A0 l0.length c0] w fun e w' => e = .returned (.bool r) ∧ Below w.heap.size w w' := by
 have bw := Try.underlying63; have bm := G.m bu; have cx := G.m bv; clear bu bv; have HB := G.m (Below.refl w.heap.size w); have H : (impl_ascending.l0 k l0 1) = some r := h; clear h; have H' := G.m H; clear H
 go_enter Try.func63, Try.ntmps63
 go_wp2
 go_loopg [3] k (fun kq v3 w' => ∃ (ae : Int), v3 = .int .i64 ae ∧ Aside0 (impl_ascending.l0 kq l0 ae = some r) ∧ Aside0 (kq ≤ k) ∧ Aside0 (Below w.heap.size w w'))
 case atStart => exact ⟨(1), (caal), H', ⟨Nat.le_refl _⟩, ⟨G.cB HB.out⟩⟩
 case round =>
  clear H'; obtain ⟨ae, rfl, HA, bj, HB⟩ := hrel; cases gk with
  | zero => exact absurd HA.out (by simp [impl_ascending.l0])
  | succ k1 =>
   have H := HA.out; clear HA; simp only [impl_ascending.l0] at H
   by_cases c2 : ae < (l0.length : Int)
   ·rw [if_pos c2] at H; have bz : decide (ae < (l0.length : Int)) = true := decide_eq_true c2; clear c2; obtain ⟨ah, bk⟩ : ∃ j_ : Int, (wrap64 (ae - 1)) = j_ := ⟨_, rfl⟩; replace H : (if 0 ≤ (ah) then (if (ah) < (l0.length : Int) then (if 0 ≤ ae then ((impl_tieOrder.f k1 ((rd_T63 l0 (ah)).f0) ((rd_T63 l0 (ah)).f1) ((rd_T63 l0 ae).f0) ((rd_T63 l0 ae).f1)).bind fun aK => (if aK ≥ 0 then (some false) else (impl_ascending.l0 k1 l0 (wrap64 (ae + 1))))) else (none)) else (none)) else (none)) = some r := by first | (rw [bk] at H; exact H) | (simp only [bk] at H ⊢; exact H)
    have cJ : (IntKind.i64.wrap (ae - 1)) = ah := (i64_w _).trans bk
    by_cases c4 : 0 ≤ (ah)
    ·rw [if_pos c4] at H; have b8 : decide (0 ≤ (ah)) = true := decide_eq_true c4; clear c4
     by_cases c5 : (ah) < (l0.length : Int)
     ·rw [if_pos c5] at H; have bp : decide ((ah) < (l0.length : Int)) = true := decide_eq_true c5; clear c5
      by_cases c6 : 0 ≤ ae
      ·rw [if_pos c6] at H; have b5 : decide (0 ≤ ae) = true := decide_eq_true c6; clear c6; obtain ⟨aK, A7, H⟩ := G.bi H; replace H : (if aK ≥ 0 then (some false) else (impl_ascending.l0 k1 l0 (wrap64 (ae + 1)))) = some r := H
       by_cases c8 : aK ≥ 0
       ·rw [if_pos c8] at H; have bl : decide (0 ≤ aK) = true := decide_eq_true c8; clear c8; obtain rfl := Option.some.inj H; try go_wp2
        have n0 := G.m (below_drew1 HB.out); clear HB; revert n0; intro HB; have a5 : 0 ≤ ((ah) : Int) := of_decide_eq_true (G.asm); have a6 : (ah) < (l0.length : Int) := of_decide_eq_true (G.asm); obtain ⟨ak, bC, ao, ap⟩ := at_T63 bm.out (ah) a5 a6; have aN := ap; have aO := ao; cases bC; replace ao := G.hx HB ao; replace ap := G.hx HB ap; replace a5 := eq_true a5; replace a6 := eq_true a6; have a7 : 0 ≤ (ae : Int) := of_decide_eq_true (G.asm); have a8 : ae < (l0.length : Int) := of_decide_eq_true (G.asm); obtain ⟨br, bD, aq, au⟩ := at_T63 bm.out ae a7 a8; have aP := au; have aQ := aq; obtain rfl : ak = br := (by injection bD); replace aq := G.hx HB aq; replace au := G.hx HB au; replace a7 := eq_true a7; replace a8 := eq_true a8; refine G.st 11 (S := fun w' => w'.cell? (ak.add (((ah)).toNat * 2)) = some (.int .i64 ((rd_T63 l0 (ah)).f0)) ∧ w'.cell? ⟨(ak.add (((ah)).toNat * 2)).block, (ak.add (((ah)).toNat * 2)).off + 1, none⟩ = some (.int .i64 ((rd_T63 l0 (ah)).f1)) ∧ w'.cell? (ak.add ((ae).toNat * 2)) = some (.int .i64 ((rd_T63 l0 ae).f0)) ∧ w'.cell? ⟨(ak.add ((ae).toNat * 2)).block, (ak.add ((ae).toNat * 2)).off + 1, none⟩ = some (.int .i64 ((rd_T63 l0 ae).f1))) [] ⟨(G.hx HB aO), (G.hx HB aN), (G.hx HB aQ), (G.hx HB aP)⟩ impl_ascending.tab4 impl_ascending.bits4 (fun hHeld HT_ HW_ => ?_); generalize wr.drew = w9 at HB ao ap aq au hHeld ⊢; refine G.pu 0 10 1 ?_; refine G.pu 1 11 3 ?_; refine G.pu 2 12 7 ?_; refine G.pu 3 13 15 ?_; refine G.pu 5 15 47 ?_; refine G.pu 6 16 111 ?_; refine G.pu 7 17 239 ?_; refine G.ta4 4 14 255 ?_; refine G.ta4 8 18 511 ?_; refine G.on 9 19 1023 (fun K hK => ?_); refine goes_ Try.func74 (caan) rfl #[.agg #[.int .i64 ((rd_T63 l0 (ah)).f0), .int .i64 ((rd_T63 l0 (ah)).f1)], .agg #[.int .i64 ((rd_T63 l0 ae).f0), .int .i64 ((rd_T63 l0 ae).f1)]] (by rfl) rfl rfl (caap) ?_; with_reducible refine (impl_tieOrder.calls k1 ((rd_T63 l0 (ah)).f0) ((rd_T63 l0 (ah)).f1) ((rd_T63 l0 ae).f0) ((rd_T63 l0 ae).f1) aK _ A7.out).mono ?_
        rintro e bQ ⟨rfl, hb⟩; refine ⟨_, rfl, ?_⟩; have n0 := G.bs HB hb; clear HB; revert n0; intro HB; (try clear hb); refine hK.out _ _ ⟨(G.hx HB aO), (G.hx HB aN), (G.hx HB aQ), (G.hx HB aP)⟩ (fun hHeld => ?_); clear hK K; refine G.no 19 ?_; refine G.pu 10 20 2047 ?_; refine done_ (done_of HT_.out (caan)) ?_; try go_wp2
        go_ret
        exact ⟨by first | rfl | (simp [errW_none, errW_some] <;> rfl) | (simp only [← bk]; first | rfl | (simp [errW_none, errW_some] <;> rfl)) | (simp [*, errW_none, errW_some] <;> rfl), G.cB HB.out⟩
       ·rw [if_neg c8] at H; have bl : decide (0 ≤ aK) = false := decide_eq_false c8; clear c8; have H' := G.m H; clear H; try go_wp2
        have n0 := G.m (below_drew1 HB.out); clear HB; revert n0; intro HB; have a5 : 0 ≤ ((ah) : Int) := of_decide_eq_true (G.asm); have a6 : (ah) < (l0.length : Int) := of_decide_eq_true (G.asm); obtain ⟨ak, bC, ao, ap⟩ := at_T63 bm.out (ah) a5 a6; have aN := ap; have aO := ao; cases bC; replace ao := G.hx HB ao; replace ap := G.hx HB ap; replace a5 := eq_true a5; replace a6 := eq_true a6; have a7 : 0 ≤ (ae : Int) := of_decide_eq_true (G.asm); have a8 : ae < (l0.length : Int) := of_decide_eq_true (G.asm); obtain ⟨br, bD, aq, au⟩ := at_T63 bm.out ae a7 a8; have aP := au; have aQ := aq; obtain rfl : ak = br := (by injection bD); replace aq := G.hx HB aq; replace au := G.hx HB au; replace a7 := eq_true a7; replace a8 := eq_true a8; refine G.st 11 (S := fun w' => w'.cell? (ak.add (((ah)).toNat * 2)) = some (.int .i64 ((rd_T63 l0 (ah)).f0)) ∧ w'.cell? ⟨(ak.add (((ah)).toNat * 2)).block, (ak.add (((ah)).toNat * 2)).off + 1, none⟩ = some (.int .i64 ((rd_T63 l0 (ah)).f1)) ∧ w'.cell? (ak.add ((ae).toNat * 2)) = some (.int .i64 ((rd_T63 l0 ae).f0)) ∧ w'.cell? ⟨(ak.add ((ae).toNat * 2)).block, (ak.add ((ae).toNat * 2)).off + 1, none⟩ = some (.int .i64 ((rd_T63 l0 ae).f1))) [] ⟨(G.hx HB aO), (G.hx HB aN), (G.hx HB aQ), (G.hx HB aP)⟩ impl_ascending.tab4 impl_ascending.bits4 (fun hHeld HT_ HW_ => ?_); generalize wr.drew = cw at HB ao ap aq au hHeld ⊢; refine G.pu 0 10 1 ?_; refine G.pu 1 11 3 ?_; refine G.pu 2 12 7 ?_; refine G.pu 3 13 15 ?_; refine G.pu 5 15 47 ?_; refine G.pu 6 16 111 ?_; refine G.pu 7 17 239 ?_; refine G.ta4 4 14 255 ?_; refine G.ta4 8 18 511 ?_; refine G.on 9 19 1023 (fun K hK => ?_); refine goes_ Try.func74 (caan) rfl #[.agg #[.int .i64 ((rd_T63 l0 (ah)).f0), .int .i64 ((rd_T63 l0 (ah)).f1)], .agg #[.int .i64 ((rd_T63 l0 ae).f0), .int .i64 ((rd_T63 l0 ae).f1)]] (by rfl) rfl rfl (caap) ?_; with_reducible refine (impl_tieOrder.calls k1 ((rd_T63 l0 (ah)).f0) ((rd_T63 l0 (ah)).f1) ((rd_T63 l0 ae).f0) ((rd_T63 l0 ae).f1) aK _ A7.out).mono ?_
        rintro e cq ⟨rfl, hb⟩; refine ⟨_, rfl, ?_⟩; have n0 := G.bs HB hb; clear HB; revert n0; intro HB; (try clear hb); refine hK.out _ _ ⟨(G.hx HB aO), (G.hx HB aN), (G.hx HB aQ), (G.hx HB aP)⟩ (fun hHeld => ?_); clear hK K; refine G.no 19 ?_; refine G.pu 10 20 2047 ?_; refine done_ (done_of HT_.out (caan)) ?_; try go_wp2
        go_roundg k1
        case measure => have := bj.out; omega
        case rel => exact ⟨(wrap64 (ae + 1)), (caal), H', ⟨by have := bj.out; omega⟩, ⟨G.cB HB.out⟩⟩
      ·rw [if_neg c6] at H; exact absurd H (by simp)
     ·rw [if_neg c5] at H; exact absurd H (by simp)
    ·rw [if_neg c4] at H; exact absurd H (by simp)
   ·rw [if_neg c2] at H; have bz : decide (ae < (l0.length : Int)) = false := decide_eq_false c2; clear c2; obtain rfl := Option.some.inj H
    go_wp2
    go_ret
    exact ⟨caao, G.cB HB.out⟩

end Go.Proofs.Ytbkdpnfjcnkoeaa.P
