-- Printed by a program of this session (mp.py, over the kit's print). Not trusted: Lean checks it.
import Derived.Test.YtbkdpnfjcnkoeaaF0
import Derived.Test.YtbkdpnfjcnkoeaaF10
import Derived.Test.YtbkdpnfjcnkoeaaF15
namespace Go.Proofs.Ytbkdpnfjcnkoeaa.P
open Go.RowKit Go.Proofs.YtbkdpnfjcnkoeaaW.PrintWords Go.Proofs.YtbkdpnfjcnkoeaaW.PrintLast Go.Proofs.YtbkdpnfjcnkoeaaW.PrintMore
attribute [local go_sem] max2_int min2_int max_two min_two max_three min_three max_four min_four   -- for this text's walks alone
set_option linter.unusedVariables false
set_option linter.unusedSimpArgs false

theorem cI25 {p : Prop} (h : p := by repeat (first | (with_reducible first | exact HI0.out | apply IsS83.alloc | apply IsS83.drewN | apply IsS83.drew | apply IsS83.set_1) | (with_reducible refine IsS83.far ?_ (Aside0.out (by assumption)) _) | exact HI0.out)) : p := h
theorem cBs25 {B : Nat} {w w1 w2 : World} (H : Below B w w1) (h : Below B w w2 := by repeat (first | (with_reducible first | exact HB.out | apply below_alloc | apply pw_below_drewN | apply below_drew1) | (with_reducible refine below_set ?_ (Aside0.out (by assumption))) | (with_reducible refine below_set ?_ (IsS83.ge HI0.out)) | exact HB.out)) : Below B w w2 := h
/-! ### spec_DrawTrailCan: function 28 -/
def spec_DrawTrailCan.f (k : Nat) (l0 : List Int) : Option (Int × (List (S63)) × Int) := (spec_l6Open.f l0).bind fun bt643 => ((spec_l71Trail.f k bt643.1 bt643.2).bind fun bt646 => (some (bt646.1, bt646.2.1, bt646.2.2.1)))
theorem spec_DrawTrailCan.mono : ∀ a0 k, LeO (spec_DrawTrailCan.f k a0) (spec_DrawTrailCan.f (k + 1) a0) := by
 intro a0 k
 unfold spec_DrawTrailCan.f
 repeat' first
   | (with_reducible exact spec_l71Trail.mono _ _ _)
   | (with_reducible exact LeO.refl _)
   | (with_reducible exact LeO.none _)
   | (with_reducible refine LeO.ite ?_ ?_)
   | (with_reducible refine LeO.bind ?_ (fun _ => ?_))
   | exact spec_l71Trail.mono _ _ _
   | exact LeO.none _
   | refine LeO.ite ?_ ?_
   | refine LeO.bind ?_ (fun _ => ?_)
set_option maxHeartbeats 8000000 in
set_option maxRecDepth 100000 in
theorem spec_DrawTrailCan.calls (k : Nat) (A0 : Option Addr) (c0 : Nat) (l0 : List Int) (r1 : Int) (r2 : List (S63)) (r3 : Int) (w : World) (hr0 : Kd.C (Kd.int .u8) w A0 l0.length l0) (hc0 : l0.length ≤ c0) (h : spec_DrawTrailCan.f k l0 = some (r1, r2, r3)) :
  Calls Try.prog 28 #[.slice A0 l0.length c0] w fun e w' => ∃ v1_ : Value, e = .returned (.tuple #[.agg #[.int .i64 r1, v1_], .int .i64 r3]) ∧ Kd.R k63 63 w' w.heap.size (fun _ => True) v1_ r2 ∧ Below w.heap.size w w' := by
 have hu29 := Try.underlying29
 have HR0 := Aside0.mk hr0
 have HC0 := Aside0.mk hc0
 clear hr0 hc0
 have HB := Aside0.mk (Below.refl w.heap.size w)
 have H : ((spec_l6Open.f l0).bind fun bt643 => ((spec_l71Trail.f k bt643.1 bt643.2).bind fun bt646 => (some (bt646.1, bt646.2.1, bt646.2.2.1)))) = some (r1, r2, r3) := h
 clear h
 replace H := Option.bind_eq_some_iff.mp H
 obtain ⟨⟨t643, t644⟩, A20, H⟩ := H
 replace H : ((spec_l71Trail.f k t643 t644).bind fun bt646 => (some (bt646.1, bt646.2.1, bt646.2.2.1))) = some (r1, r2, r3) := H
 have A2 := Aside0.mk A20
 clear A20
 replace H := Option.bind_eq_some_iff.mp H
 obtain ⟨⟨t646, t647, t650, t651⟩, A30, H⟩ := H
 replace H : (some (t646, t647, t650)) = some (r1, r2, r3) := H
 have A3 := Aside0.mk A30
 clear A30
 simp only [Option.some.injEq, Prod.mk.injEq] at H
 obtain ⟨rfl, rfl, rfl⟩ := H
 go_enter Try.func28, Try.ntmps28
 go_wp2_with (first | ((with_reducible refine gate_dst (N := 2) rfl ?_); refine G.be 2 #[.int .i64 0, .slice none 0 0] 29 ?_; intro gb642 hg w4 hbox hb; have n0_ := Aside0.mk (below_step (G.cB HB.out) hb); have n1_ := Aside0.mk (hbox); have n2_ := Aside0.mk ((by rw [hg]; exact (below_size (G.cB HB.out)) : w.heap.size ≤ gb642)); have n3_ := Aside0.mk ((by rw [hg]; exact (below_size (G.cB HB.out)) : w.heap.size ≤ gb642)); clear HB; revert n0_ n1_ n2_ n3_; intro HB BK642 GW642 GE642; clear hb hbox hg) | ((with_reducible refine gate_callee (f := 55) rfl ?_); refine goesL_ (some 5) rfl rfl Try.func55 (by kernel_rfl) rfl #[.slice A0 l0.length c0] rfl (G.ar) ?_; (with_reducible refine (spec_l6Open.calls _ _ l0 t643 t644 w _ ?side1 ?side2 ?side3 A2.out).mono ?_); (case side1 => exact G.cB HB.out); (case side2 => exact HR0.out); (case side3 => exact HC0.out); rintro e w5 ⟨g645, rfl, hi, hb, hb2⟩; refine ⟨_, rfl, ?_⟩; have n0_ := Aside0.mk (blk_below (g := gb642) (o := .cells #[.int .i64 0, .slice none 0 0] 29 (0, 0)) (G.cb BK642.out) hb2); have n1_ := Aside0.mk (hb); have n2_ := Aside0.mk (hi); have n3_ := Aside0.mk (IsS83.ne_blk hi (blk_below (g := gb642) (o := .cells #[.int .i64 0, .slice none 0 0] 29 (0, 0)) (G.cb BK642.out) hb2) (by decide)); have n4_ := Aside0.mk (Ne.symm (IsS83.ne_blk hi (blk_below (g := gb642) (o := .cells #[.int .i64 0, .slice none 0 0] 29 (0, 0)) (G.cb BK642.out) hb2) (by decide))); clear BK642 HB; revert n0_ n1_ n2_ n3_ n4_; intro BK642 HB HI645 NB645_642 NB642_645; (try clear hb); (try clear hb2); (try clear hk); (try clear hi)) | ((with_reducible refine gate_callee (f := 54) rfl ?_); refine goesL_ (some 6) rfl rfl Try.func54 (by kernel_rfl) rfl #[.pointer (some ⟨g645, 0, none⟩)] rfl (G.ar) ?_; (with_reducible refine (spec_l71Trail.calls k g645 t643 t644 t646 t647 t650 t651 w _ ?side1 ?side2 A3.out).mono ?_); (case side1 => repeat (first | (with_reducible first | exact HI645.out | apply IsS83.alloc | apply IsS83.drewN | apply IsS83.drew | apply IsS83.set_1 | refine IsS83.far ?_ NB645_642.out _) | exact HI645.out)); (case side2 => exact cBs25 HB.out); rintro e w6 ⟨v648, rfl, ho0, hi, hb, hk⟩; refine ⟨_, rfl, ?_⟩; have n0_ := Aside0.mk (KeepBut.blk hk (g' := gb642) (o := .cells #[.int .i64 0, .slice none 0 0] 29 (0, 0)) (G.cb BK642.out) NB642_645.out (by simp)); have n1_ := Aside0.mk (Kd.R_lower ho0 (below_size (cBs25 HB.out))); have n2_ := Aside0.mk (hb); have n3_ := Aside0.mk (hi); clear BK642 HB HI645; revert n0_ n1_ n2_ n3_; intro BK642 HO649 HB HI645; (try clear hb); (try clear hb2); (try clear hk); (try clear hi); (try clear ho0); have hnb7 := NB642_645.out; have hnc7 := NB645_642.out; have hcz8_0 : w6.cell? ⟨gb642, 0, none⟩ = some (.int .i64 0) := (blk_cell BK642.out 0).trans rfl; have hcz8_1 : w6.cell? ⟨gb642, 1, none⟩ = some (.slice none 0 0) := (blk_cell BK642.out 1).trans rfl; have hfz8_0 := blk_frozen BK642.out 0; have hfz8_1 := blk_frozen BK642.out 1; obtain ⟨Ao9, co9, eo9⟩ := Kd.R_slice HO649.out; subst eo9))
 refine bodyPost_ret (results_ct rfl _ _ gb642 29 #[.int .i64 t646, .slice Ao9 t647.length co9] (0, 0) _ rfl (by (with_reducible repeat (first | refine blk_drewN ?_ _ | refine blk_drew ?_ | refine blk_alloc ?_ _)); refine blk_put (cs := #[.int .i64 t646, .slice none 0 0]) ?_ 1 _ rfl; (with_reducible repeat (first | refine blk_drewN ?_ _ | refine blk_drew ?_ | refine blk_alloc ?_ _)); refine blk_put (cs := #[.int .i64 0, .slice none 0 0]) ?_ 0 _ rfl; (with_reducible repeat (first | refine blk_drewN ?_ _ | refine blk_drew ?_ | refine blk_alloc ?_ _)); exact BK642.out) Try.underlying29 rfl (by kernel_rfl)) rfl ?_
 exact ⟨_, by first | rfl | (simp [errW_none, errW_some] <;> rfl) | (simp [*, errW_none, errW_some] <;> rfl), by (with_reducible repeat (first | apply Kd.R_alloc | apply Kd.R_drewN | apply Kd.R_drew)); exact Kd.R_mono (Kd.R_far (p := ⟨gb642, 1, none⟩) (Kd.R_far (p := ⟨gb642, 0, none⟩) (Kd.R_types HO649.out BK642.out (by decide)) (fun _ hk => hk.2) (.int .i64 t646)) (fun _ hk => hk.2) (.slice Ao9 t647.length co9)) (fun _ hk => trivial), cBs25 HB.out⟩

end Go.Proofs.Ytbkdpnfjcnkoeaa.P
