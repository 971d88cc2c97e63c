-- Printed by a program of this session (mp.py, over the kit's print). Not trusted: Lean checks it.
import Derived.Test.YtbkdpnfjcnkoeaaF0
import Derived.Test.YtbkdpnfjcnkoeaaF10
import Derived.Test.YtbkdpnfjcnkoeaaF11
import Derived.Test.YtbkdpnfjcnkoeaaF14
namespace Go.Proofs.Ytbkdpnfjcnkoeaa.P
open Go.RowKit Go.Proofs.YtbkdpnfjcnkoeaaW.PrintWords Go.Proofs.YtbkdpnfjcnkoeaaW.PrintLast Go.Proofs.YtbkdpnfjcnkoeaaW.PrintMore
attribute [local go_sem] max2_int min2_int max_two min_two max_three min_three max_four min_four   -- for this text's walks alone
set_option linter.unusedVariables false
set_option linter.unusedSimpArgs false

theorem c15_0 {p : Prop} (h : p := by rw [hg]; exact (below_size (by repeat (first | (with_reducible first | exact HBW.out | apply below_alloc | apply pw_below_drewN | apply below_drew1) | exact HBW.out)))) : p := h
theorem c15_1 {p : Prop} (h : p := by repeat (first | (with_reducible first | exact HBW.out | apply below_alloc | apply pw_below_drewN | apply below_drew1) | exact HBW.out)) : p := h
theorem c15_2 {p : Prop} (h : p := by rw [hg]; exact Nat.ne_of_lt (blk_lt (g := gb613) (o := .cells #[.int .i64 0, .slice none 0 0] 29 (0, 0)) (G.cb BK613.out))) : p := h
theorem c15_3 {p : Prop} (h : p := by rw [hg]; exact Nat.ne_of_gt (blk_lt (g := gb613) (o := .cells #[.int .i64 0, .slice none 0 0] 29 (0, 0)) (G.cb BK613.out))) : p := h
theorem c15_4 {p : Prop} (h : p := by rw [hg]; exact (keep_size (w := w) (g := g) (row := none) (G.cK HK.out))) : p := h
theorem c15_5 {p : Prop} (h : p := by first | rfl | (simp; done) | (simp [*]; done)) : p := h
theorem cI15 {p : Prop} (h : p := by repeat (first | (with_reducible first | exact HI0.out | apply IsS83.alloc | apply IsS83.drewN | apply IsS83.drew | apply IsS83.set_1) | (with_reducible refine IsS83.far ?_ (Aside0.out (by assumption)) _) | exact HI0.out)) : p := h
theorem cBs15 {B : Nat} {w w1 w2 : World} (H : Below B w w1) (h : Below B w w2 := by repeat (first | (with_reducible first | exact HB.out | apply below_alloc | apply pw_below_drewN | apply below_drew1) | (with_reducible refine below_set ?_ (Aside0.out (by assumption))) | (with_reducible refine below_set ?_ (IsS83.ge HI0.out)) | exact HB.out)) : Below B w w2 := h
/-! ### spec_l71Trail: function 54 -/
def spec_l71Trail.l0 : Nat → Int → Int → Int → List Int → Int → Int → List (S63) → Option (Int × (List (S63)) × Int × Int)
 | 0, _, _, _, _, _, _, _ => none
 | k + 1, x6, x7, x8, x1000, x1001, x627000, x627001 => if x8 > 0 then ((spec_l6Rd_pick.f k x1000 x1001 x627000).bind fun bt631 => ((spec_NetAdd.f k x627000 x627001 x7 bt631.1).bind fun bt633 => (if bt633.2.2 = true then (spec_l71Trail.l0 k x6 bt631.1 (wrap64 (x8 - 1)) x1000 bt631.2 bt633.1 bt633.2.1) else (spec_l71Trail.l0 k x6 x7 (wrap64 (x8 - 1)) x1000 bt631.2 x627000 x627001)))) else (some (x627000, x627001, x6, x1001))
def spec_l71Trail.f (k : Nat) (s0_0 : List Int) (s0_1 : Int) : Option (Int × (List (S63)) × Int × Int) := (spec_l6Rd_pick.f k s0_0 s0_1 4).bind fun bt614 => (if bt614.1 = 0 then ((spec_l71Any.f k s0_0 bt614.2).bind fun bt616 => ((spec_l71Knot.f k s0_0 bt616.2.2 bt616.1 bt616.2.1).bind fun bt622 => (some (bt616.1, bt616.2.1, bt622.1, bt622.2)))) else ((spec_l6Rd_pick.f k s0_0 bt614.2 7).bind fun bt624 => ((spec_l6Rd_pick.f k s0_0 bt624.2 (wrap64 (2 + bt624.1))).bind fun bt627 => ((spec_l6Rd_pick.f k s0_0 bt627.2 13).bind fun bt629 => (spec_l71Trail.l0 k bt627.1 bt627.1 bt629.1 s0_0 bt629.2 (wrap64 (2 + bt624.1)) ([] : List (S63)))))))
theorem spec_l71Trail.mono_l : ∀ k, (∀ y0 y1 y2 y3 y4 y5 y6, LeO (spec_l71Trail.l0 k y0 y1 y2 y3 y4 y5 y6) (spec_l71Trail.l0 (k + 1) y0 y1 y2 y3 y4 y5 y6))
 | 0 => fun _ _ _ _ _ _ _ r h => by simp [spec_l71Trail.l0] at h
 | k + 1 => by
  have ih0 := spec_l71Trail.mono_l k
  ·intro y0 y1 y2 y3 y4 y5 y6
   unfold spec_l71Trail.l0
   repeat' first
   | (with_reducible exact ih0 _ _ _ _ _ _ _)
   | (with_reducible exact spec_NetAdd.mono _ _ _ _ _)
   | (with_reducible exact spec_l6Rd_pick.mono _ _ _ _)
   | (with_reducible exact spec_l71Any.mono _ _ _)
   | (with_reducible exact spec_l71Knot.mono _ _ _ _ _)
   | (with_reducible exact LeO.refl _)
   | (with_reducible exact LeO.none _)
   | (with_reducible refine LeO.ite ?_ ?_)
   | (with_reducible refine LeO.bind ?_ (fun _ => ?_))
   | exact ih0 _ _ _ _ _ _ _
   | exact spec_NetAdd.mono _ _ _ _ _
   | exact spec_l6Rd_pick.mono _ _ _ _
   | exact spec_l71Any.mono _ _ _
   | exact spec_l71Knot.mono _ _ _ _ _
   | exact LeO.none _
   | refine LeO.ite ?_ ?_
   | refine LeO.bind ?_ (fun _ => ?_)
theorem spec_l71Trail.mono : ∀ a0 a1 k, LeO (spec_l71Trail.f k a0 a1) (spec_l71Trail.f (k + 1) a0 a1) := by
 intro a0 a1 k
 have ih0 := spec_l71Trail.mono_l k
 unfold spec_l71Trail.f
 repeat' first
   | (with_reducible exact ih0 _ _ _ _ _ _ _)
   | (with_reducible exact spec_NetAdd.mono _ _ _ _ _)
   | (with_reducible exact spec_l6Rd_pick.mono _ _ _ _)
   | (with_reducible exact spec_l71Any.mono _ _ _)
   | (with_reducible exact spec_l71Knot.mono _ _ _ _ _)
   | (with_reducible exact LeO.refl _)
   | (with_reducible exact LeO.none _)
   | (with_reducible refine LeO.ite ?_ ?_)
   | (with_reducible refine LeO.bind ?_ (fun _ => ?_))
   | exact ih0 _ _ _ _ _ _ _
   | exact spec_NetAdd.mono _ _ _ _ _
   | exact spec_l6Rd_pick.mono _ _ _ _
   | exact spec_l71Any.mono _ _ _
   | exact spec_l71Knot.mono _ _ _ _ _
   | exact LeO.none _
   | refine LeO.ite ?_ ?_
   | refine LeO.bind ?_ (fun _ => ?_)
set_option maxHeartbeats 8000000 in
set_option maxRecDepth 100000 in
theorem spec_l71Trail.calls (k : Nat) (g : Nat) (s0_0 : List Int) (s0_1 : Int) (r1 : Int) (r2 : List (S63)) (r3 : Int) (r4 : Int) (w0 w : World) (hI : IsS83 w0 w g s0_0 s0_1) (hB : Below w0.heap.size w0 w) (h : spec_l71Trail.f k s0_0 s0_1 = some (r1, r2, r3, r4)) :
  Calls Try.prog 54 #[.pointer (some ⟨g, 0, none⟩)] w fun e w' => ∃ v1_ : Value, e = .returned (.tuple #[.agg #[.int .i64 r1, v1_], .int .i64 r3]) ∧ Kd.R k63 63 w' w.heap.size (fun _ => True) v1_ r2 ∧ IsS83 w0 w' g s0_0 r4 ∧ Below w0.heap.size w0 w' ∧ KeepBut w w' g none := by
 have hu29 := Try.underlying29
 have HI0 := Aside0.mk hI
 have HK := Aside0.mk (KeepBut.refl w g none)
 have HL := Aside0.mk hB.size
 clear hI
 have HW0 := Aside0.mk hB.size
 have HB := Aside0.mk hB
 clear hB
 have H : ((spec_l6Rd_pick.f k s0_0 s0_1 4).bind fun bt614 => (if bt614.1 = 0 then ((spec_l71Any.f k s0_0 bt614.2).bind fun bt616 => ((spec_l71Knot.f k s0_0 bt616.2.2 bt616.1 bt616.2.1).bind fun bt622 => (some (bt616.1, bt616.2.1, bt622.1, bt622.2)))) else ((spec_l6Rd_pick.f k s0_0 bt614.2 7).bind fun bt624 => ((spec_l6Rd_pick.f k s0_0 bt624.2 (wrap64 (2 + bt624.1))).bind fun bt627 => ((spec_l6Rd_pick.f k s0_0 bt627.2 13).bind fun bt629 => (spec_l71Trail.l0 k bt627.1 bt627.1 bt629.1 s0_0 bt629.2 (wrap64 (2 + bt624.1)) ([] : List (S63)))))))) = some (r1, r2, r3, r4) := h
 clear h
 replace H := Option.bind_eq_some_iff.mp H
 obtain ⟨⟨t614, t615⟩, A20, H⟩ := H
 replace H : (if t614 = 0 then ((spec_l71Any.f k s0_0 t615).bind fun bt616 => ((spec_l71Knot.f k s0_0 bt616.2.2 bt616.1 bt616.2.1).bind fun bt622 => (some (bt616.1, bt616.2.1, bt622.1, bt622.2)))) else ((spec_l6Rd_pick.f k s0_0 t615 7).bind fun bt624 => ((spec_l6Rd_pick.f k s0_0 bt624.2 (wrap64 (2 + bt624.1))).bind fun bt627 => ((spec_l6Rd_pick.f k s0_0 bt627.2 13).bind fun bt629 => (spec_l71Trail.l0 k bt627.1 bt627.1 bt629.1 s0_0 bt629.2 (wrap64 (2 + bt624.1)) ([] : List (S63))))))) = some (r1, r2, r3, r4) := H
 have A2 := Aside0.mk A20
 clear A20
 by_cases c3 : t614 = 0
 ·rw [if_pos c3] at H
  have c3b0 : (t614 == 0) = true := beq_iff_eq.mpr c3
  have c3b1 : (t614 != 0) = false := bne_eq_false_iff_eq.mpr c3
  clear c3
  replace H := Option.bind_eq_some_iff.mp H
  obtain ⟨⟨t616, t617, t620⟩, A40, H⟩ := H
  replace H : ((spec_l71Knot.f k s0_0 t620 t616 t617).bind fun bt622 => (some (t616, t617, bt622.1, bt622.2))) = some (r1, r2, r3, r4) := H
  have A4 := Aside0.mk A40
  clear A40
  replace H := Option.bind_eq_some_iff.mp H
  obtain ⟨⟨t622, t623⟩, A50, H⟩ := H
  replace H : (some (t616, t617, t622, t623)) = some (r1, r2, r3, r4) := H
  have A5 := Aside0.mk A50
  clear A50
  simp only [Option.some.injEq, Prod.mk.injEq] at H
  obtain ⟨rfl, rfl, rfl, rfl⟩ := H
  go_enter Try.func54, Try.ntmps54
  try go_wp2_with (first | ((with_reducible refine gate_dst (N := 2) rfl ?_); refine G.be 2 #[.int .i64 0, .slice none 0 0] 29 ?_; intro gb613 hg w6 hbox hb; have n0_ := Aside0.mk (IsS83.below (cI15) hb); have n1_ := Aside0.mk (KeepBut.trans (G.cK HK.out) (KeepBut.of_below hb g none) (.inl rfl)); have n2_ := Aside0.mk (below_step (cBs15 HB.out) hb); have n3_ := Aside0.mk (hbox); have n4_ := Aside0.mk ((c15_4 : w.heap.size ≤ gb613)); have n5_ := Aside0.mk ((Nat.le_trans HW0.out (c15_4 : w.heap.size ≤ gb613) : w0.heap.size ≤ gb613)); have n6_ := Aside0.mk ((by rw [hg]; exact Nat.ne_of_lt (IsS83.lt (show IsS83 w0 _ g s0_0 s0_1 from cI15)) : g ≠ gb613)); have n7_ := Aside0.mk ((by rw [hg]; exact Nat.ne_of_gt (IsS83.lt (show IsS83 w0 _ g s0_0 s0_1 from cI15)) : gb613 ≠ g)); clear HI0 HK HB; revert n0_ n1_ n2_ n3_ n4_ n5_ n6_ n7_; intro HI0 HK HB BK613 GW613 GE613 NB0_613 NB613_0; clear hb hbox hg) | ((with_reducible refine gate_callee (f := 56) rfl ?_); refine goesL_ (some 13) rfl rfl Try.func56 (by kernel_rfl) rfl #[.pointer (some ⟨g, 0, none⟩), .int .i64 4] rfl (G.ar) ?_; (with_reducible refine (spec_l6Rd_pick.calls k g s0_0 s0_1 4 t614 t615 w0 _ ?side1 ?side2 A2.out).mono ?_); (case side1 => exact cI15); (case side2 => exact cBs15 HB.out); rintro e w7 ⟨rfl, hi, hb, hk⟩; refine ⟨_, rfl, ?_⟩; have n0_ := Aside0.mk (KeepBut.blk hk (g' := gb613) (o := .cells #[.int .i64 0, .slice none 0 0] 29 (0, 0)) (G.cb BK613.out) NB613_0.out (by simp)); have n1_ := Aside0.mk (KeepBut.trans (G.cK HK.out) hk (.inl rfl)); have n2_ := Aside0.mk (hb); have n3_ := Aside0.mk (hi); clear BK613 HK HB HI0; revert n0_ n1_ n2_ n3_; intro BK613 HK HB HI0; (try clear hb); (try clear hb2); (try clear hk); (try clear hi)) | ((with_reducible refine gate_callee (f := 70) rfl ?_); refine goesL_ (some 16) rfl rfl Try.func70 (by kernel_rfl) rfl #[.pointer (some ⟨g, 0, none⟩)] rfl (G.ar) ?_; (with_reducible refine (spec_l71Any.calls k g s0_0 t615 t616 t617 t620 w0 _ ?side1 ?side2 A4.out).mono ?_); (case side1 => exact cI15); (case side2 => exact cBs15 HB.out); rintro e w8 ⟨v618, rfl, ho0, hi, hb, hk⟩; refine ⟨_, rfl, ?_⟩; have n0_ := Aside0.mk (KeepBut.blk hk (g' := gb613) (o := .cells #[.int .i64 0, .slice none 0 0] 29 (0, 0)) (G.cb BK613.out) NB613_0.out (by simp)); have n1_ := Aside0.mk (Kd.R_lower ho0 (keep_size (w := w) (g := g) (row := none) (G.cK HK.out))); have n2_ := Aside0.mk (KeepBut.trans (G.cK HK.out) hk (.inl rfl)); have n3_ := Aside0.mk (hb); have n4_ := Aside0.mk (hi); clear BK613 HK HB HI0; revert n0_ n1_ n2_ n3_ n4_; intro BK613 HO619 HK HB HI0; (try clear hb); (try clear hb2); (try clear hk); (try clear hi); (try clear ho0)) | ((with_reducible refine gate_dst (N := 4) rfl ?_); refine G.be 4 #[.int .i64 0, .slice none 0 0] 29 ?_; intro gb621 hg w9 hbox hb; have n0_ := Aside0.mk (Kd.R_below (G.cR HO619.out) hb); have n1_ := Aside0.mk (IsS83.below (cI15) hb); have n2_ := Aside0.mk (blk_below (g := gb613) (o := .cells #[.int .i64 0, .slice none 0 0] 29 (0, 0)) (G.cb BK613.out) hb); have n3_ := Aside0.mk (KeepBut.trans (G.cK HK.out) (KeepBut.of_below hb g none) (.inl rfl)); have n4_ := Aside0.mk (below_step (cBs15 HB.out) hb); have n5_ := Aside0.mk (hbox); have n6_ := Aside0.mk ((c15_4 : w.heap.size ≤ gb621)); have n7_ := Aside0.mk ((Nat.le_trans HW0.out (c15_4 : w.heap.size ≤ gb621) : w0.heap.size ≤ gb621)); have n8_ := Aside0.mk ((c15_2 : gb613 ≠ gb621)); have n9_ := Aside0.mk ((c15_3 : gb621 ≠ gb613)); have n10_ := Aside0.mk ((by rw [hg]; exact Nat.ne_of_lt (IsS83.lt (show IsS83 w0 _ g s0_0 t620 from cI15)) : g ≠ gb621)); have n11_ := Aside0.mk ((by rw [hg]; exact Nat.ne_of_gt (IsS83.lt (show IsS83 w0 _ g s0_0 t620 from cI15)) : gb621 ≠ g)); clear HO619 HI0 BK613 HK HB; revert n0_ n1_ n2_ n3_ n4_ n5_ n6_ n7_ n8_ n9_ n10_ n11_; intro HO619 HI0 BK613 HK HB BK621 GW621 GE621 NB613_621 NB621_613 NB0_621 NB621_0; clear hb hbox hg; have hnb10 := NB621_613.out; have hnc10 := NB613_621.out; have hnb11 := NB621_0.out; have hnc11 := NB0_621.out; have hcz12_0 : w9.cell? ⟨gb621, 0, none⟩ = some (.int .i64 0) := (blk_cell BK621.out 0).trans rfl; have hcz12_1 : w9.cell? ⟨gb621, 1, none⟩ = some (.slice none 0 0) := (blk_cell BK621.out 1).trans rfl; have hfz12_0 := blk_frozen BK621.out 0; have hfz12_1 := blk_frozen BK621.out 1; obtain ⟨Ao13, co13, eo13⟩ := Kd.R_slice HO619.out; subst eo13))
  have n0_ : Aside0 (Kd.R k63 63 ((w9.setCell ⟨gb621, 0, none⟩ (.int .i64 t616)).setCell ⟨gb621, 1, none⟩ (.slice Ao13 t617.length co13)) w.heap.size (fun _ => True) (.slice Ao13 t617.length co13) t617) := ⟨by (with_reducible repeat (first | apply Kd.R_alloc | apply Kd.R_drewN | apply Kd.R_drew)); exact Kd.R_mono (Kd.R_far (p := ⟨gb621, 1, none⟩) (Kd.R_far (p := ⟨gb621, 0, none⟩) (Kd.R_types HO619.out BK621.out (by decide)) (fun _ hk => hk.2) (.int .i64 t616)) (fun _ hk => hk.2) (.slice Ao13 t617.length co13)) (fun _ hk => trivial)⟩
  have n1_ : Aside0 (((w9.setCell ⟨gb621, 0, none⟩ (.int .i64 t616)).setCell ⟨gb621, 1, none⟩ (.slice Ao13 t617.length co13)).heap[gb613]? = some (.cells #[.int .i64 0, .slice none 0 0] 29 (0, 0))) := ⟨by (with_reducible repeat (first | refine blk_drewN ?_ _ | refine blk_drew ?_ | refine blk_alloc ?_ _)); refine blk_far ?_ NB613_621.out _; (with_reducible repeat (first | refine blk_drewN ?_ _ | refine blk_drew ?_ | refine blk_alloc ?_ _)); refine blk_far ?_ NB613_621.out _; (with_reducible repeat (first | refine blk_drewN ?_ _ | refine blk_drew ?_ | refine blk_alloc ?_ _)); exact BK613.out⟩
  have n2_ : Aside0 (((w9.setCell ⟨gb621, 0, none⟩ (.int .i64 t616)).setCell ⟨gb621, 1, none⟩ (.slice Ao13 t617.length co13)).heap[gb621]? = some (.cells #[.int .i64 t616, .slice Ao13 t617.length co13] 29 (0, 0))) := ⟨by (with_reducible repeat (first | refine blk_drewN ?_ _ | refine blk_drew ?_ | refine blk_alloc ?_ _)); refine blk_put (cs := #[.int .i64 t616, .slice none 0 0]) ?_ 1 _ rfl; (with_reducible repeat (first | refine blk_drewN ?_ _ | refine blk_drew ?_ | refine blk_alloc ?_ _)); refine blk_put (cs := #[.int .i64 0, .slice none 0 0]) ?_ 0 _ rfl; (with_reducible repeat (first | refine blk_drewN ?_ _ | refine blk_drew ?_ | refine blk_alloc ?_ _)); exact BK621.out⟩
  have n3_ : Aside0 (IsS83 w0 ((w9.setCell ⟨gb621, 0, none⟩ (.int .i64 t616)).setCell ⟨gb621, 1, none⟩ (.slice Ao13 t617.length co13)) g s0_0 t620) := ⟨cI15⟩
  have n4_ : Aside0 (KeepBut w ((w9.setCell ⟨gb621, 0, none⟩ (.int .i64 t616)).setCell ⟨gb621, 1, none⟩ (.slice Ao13 t617.length co13)) g none) := ⟨G.cK HK.out⟩
  have n5_ : Aside0 (Below w0.heap.size w0 ((w9.setCell ⟨gb621, 0, none⟩ (.int .i64 t616)).setCell ⟨gb621, 1, none⟩ (.slice Ao13 t617.length co13))) := ⟨cBs15 HB.out⟩
  (try clear HO619)
  (try clear BK613)
  (try clear BK621)
  (try clear HI0)
  (try clear HK)
  (try clear HB)
  generalize ((w9.setCell ⟨gb621, 0, none⟩ (.int .i64 t616)).setCell ⟨gb621, 1, none⟩ (.slice Ao13 t617.length co13)) = w14 at n0_ n1_ n2_ n3_ n4_ n5_ ⊢
  revert n0_ n1_ n2_ n3_ n4_ n5_
  intro HO619 BK613 BK621 HI0 HK HB
  have n0_ := Aside0.mk (Kd.R_drew HO619.out)
  have n1_ := Aside0.mk (blk_drew BK613.out)
  have n2_ := Aside0.mk (blk_drew BK621.out)
  have n3_ := Aside0.mk (IsS83.drew HI0.out)
  have n4_ := Aside0.mk (keep_drew HK.out)
  have n5_ := Aside0.mk (below_drew1 HB.out)
  clear HO619 BK613 BK621 HI0 HK HB
  revert n0_ n1_ n2_ n3_ n4_ n5_
  intro HO619 BK613 BK621 HI0 HK HB
  refine start_ (n := 6) (S := fun w' => w'.cell? ⟨gb621, 0, none⟩ = some (.int .i64 t616) ∧ w'.cell? ⟨gb621, 1, none⟩ = some (.slice Ao13 t617.length co13)) (ds := []) (G.fl 6 0) (by kernel_rfl) rfl (by kernel_rfl) ⟨(blk_cell BK621.out 0).trans rfl, (blk_cell BK621.out 1).trans rfl⟩ (fun hHeld => ?_)
  generalize w14.drew = w15 at HO619 BK613 BK621 HI0 HK HB hHeld ⊢
  refine G.pu 1 (some 18) (G.fl 6 2) ?_
  refine G.ta2 0 (some 17) (G.fl 6 3) ?_
  refine G.ta2 2 (some 19) (G.fl 6 7) ?_
  refine one_ (i := 3) (N := some 20) (G.fl 6 15) rfl rfl (by kernel_rfl) (by decide) (fun K hK => ?_)
  refine goes_ Try.func71 (by kernel_rfl) rfl #[.pointer (some ⟨g, 0, none⟩), .agg #[.int .i64 t616, .slice Ao13 t617.length co13]] (by rfl) rfl rfl (G.ar) ?_
  with_reducible refine (spec_l71Knot.calls k g s0_0 t620 t616 _ _ t617 t622 t623 w0 _ ?side1 ?side2 ?side3 ?side4 A5.out).mono ?_
  (case side1 => exact cI15)
  (case side2 => exact cBs15 HB.out)
  (case side3 => exact Kd.C_foot_own (IsS83.apart (show IsS83 w0 _ g s0_0 t620 from cI15) (G.cR HO619.out) (by decide)) (fun _ h_ => h_.2))
  (case side4 => exact (Kd.R_reads' HO619.out).2.1)
  rintro e w16 ⟨rfl, hi, hb, hk⟩
  refine ⟨_, rfl, ?_⟩
  have n0_ := Aside0.mk (KeepBut.blk hk (g' := gb613) (o := .cells #[.int .i64 0, .slice none 0 0] 29 (0, 0)) (G.cb BK613.out) NB613_0.out (by simp))
  have n1_ := Aside0.mk (Kd.R_mono (Kd.R_keep (IsS83.apart (show IsS83 w0 _ g s0_0 t620 from cI15) (G.cR HO619.out) (by decide)) hk (fun _ h => h.2)) (fun _ h => h.1))
  have n2_ := Aside0.mk (KeepBut.blk hk (g' := gb621) (o := .cells #[.int .i64 t616, .slice Ao13 t617.length co13] 29 (0, 0)) (G.cb BK621.out) NB621_0.out (by simp))
  have n3_ := Aside0.mk (KeepBut.trans (G.cK HK.out) hk (.inl rfl))
  have n4_ := Aside0.mk (hb)
  have n5_ := Aside0.mk (hi)
  clear BK613 HO619 BK621 HK HB HI0
  revert n0_ n1_ n2_ n3_ n4_ n5_
  intro BK613 HO619 BK621 HK HB HI0
  (try clear hb)
  (try clear hb2)
  (try clear hk)
  (try clear hi)
  refine hK.out _ _ ⟨(blk_cell BK621.out 0).trans rfl, (blk_cell BK621.out 1).trans rfl⟩ (fun hHeld => ?_)
  clear hK K
  refine G.no (some 20) ?_
  refine one_ (i := 4) (N := none) (G.fl 6 31) rfl rfl (by kernel_rfl) (by decide) (fun K hK => ?_)
  have hs17 : w16.cell? ⟨gb613, 0, none⟩ = some (.int .i64 0) := (blk_cell BK613.out 0).trans rfl
  have hfs17 := blk_frozen BK613.out 0
  have hns17_1 := NB621_613.out
  have hms17_1 := NB613_621.out
  have hs18 : w16.cell? ⟨gb613, 1, none⟩ = some (.slice none 0 0) := (blk_cell BK613.out 1).trans rfl
  have hfs18 := blk_frozen BK613.out 1
  have hns18_1 := NB621_613.out
  have hms18_1 := NB613_621.out
  refine skip_ (w1 := ?_) (by rfl) rfl ?_ ?_
  rotate_left
  ·go_simp
   rfl
  refine hK.out _ _ ⟨((cell_far (p := ⟨gb613, _, none⟩) NB621_613.out _).trans (((cell_far (p := ⟨gb613, _, none⟩) NB621_613.out _).trans (hHeld.1)))), ((cell_far (p := ⟨gb613, _, none⟩) NB621_613.out _).trans (((cell_far (p := ⟨gb613, _, none⟩) NB621_613.out _).trans (hHeld.2))))⟩ (fun hHeld => ?_)
  clear hK K
  refine G.pu 5 (some 3) (G.fl 6 63) ?_
  refine done_ (by kernel_rfl) ?_
  try go_wp2
  refine bodyPost_ret (results_ct rfl _ _ gb613 29 #[.int .i64 t616, .slice Ao13 t617.length co13] (0, 0) _ rfl (by (with_reducible repeat (first | refine blk_drewN ?_ _ | refine blk_drew ?_ | refine blk_alloc ?_ _)); refine blk_put (cs := #[.int .i64 t616, .slice none 0 0]) ?_ 1 _ rfl; (with_reducible repeat (first | refine blk_drewN ?_ _ | refine blk_drew ?_ | refine blk_alloc ?_ _)); refine blk_put (cs := #[.int .i64 0, .slice none 0 0]) ?_ 0 _ rfl; (with_reducible repeat (first | refine blk_drewN ?_ _ | refine blk_drew ?_ | refine blk_alloc ?_ _)); exact BK613.out) Try.underlying29 rfl (by kernel_rfl)) rfl ?_
  exact ⟨_, by first | rfl | (simp [errW_none, errW_some] <;> rfl) | (simp [*, errW_none, errW_some] <;> rfl), by (with_reducible repeat (first | apply Kd.R_alloc | apply Kd.R_drewN | apply Kd.R_drew)); exact Kd.R_mono (Kd.R_far (p := ⟨gb613, 1, none⟩) (Kd.R_far (p := ⟨gb613, 0, none⟩) (Kd.R_types HO619.out BK613.out (by decide)) (fun _ hk => hk.2) (.int .i64 t616)) (fun _ hk => hk.2) (.slice Ao13 t617.length co13)) (fun _ hk => trivial), cI15, cBs15 HB.out, G.cK HK.out⟩
 ·rw [if_neg c3] at H
  have c3b0 : (t614 == 0) = false := beq_eq_false_iff_ne.mpr c3
  have c3b1 : (t614 != 0) = true := bne_iff_ne.mpr c3
  replace H := Option.bind_eq_some_iff.mp H
  obtain ⟨⟨t624, t625⟩, A190, H⟩ := H
  replace H : ((spec_l6Rd_pick.f k s0_0 t625 (wrap64 (2 + t624))).bind fun bt627 => ((spec_l6Rd_pick.f k s0_0 bt627.2 13).bind fun bt629 => (spec_l71Trail.l0 k bt627.1 bt627.1 bt629.1 s0_0 bt629.2 (wrap64 (2 + t624)) ([] : List (S63))))) = some (r1, r2, r3, r4) := H
  have A19 := Aside0.mk A190
  clear A190
  replace H := Option.bind_eq_some_iff.mp H
  obtain ⟨⟨t627, t628⟩, A200, H⟩ := H
  replace H : ((spec_l6Rd_pick.f k s0_0 t628 13).bind fun bt629 => (spec_l71Trail.l0 k t627 t627 bt629.1 s0_0 bt629.2 (wrap64 (2 + t624)) ([] : List (S63)))) = some (r1, r2, r3, r4) := H
  have A20 := Aside0.mk A200
  clear A200
  replace H := Option.bind_eq_some_iff.mp H
  obtain ⟨⟨t629, t630⟩, A210, H⟩ := H
  replace H : (spec_l71Trail.l0 k t627 t627 t629 s0_0 t630 (wrap64 (2 + t624)) ([] : List (S63))) = some (r1, r2, r3, r4) := H
  have A21 := Aside0.mk A210
  clear A210
  have H' := Aside0.mk H
  clear H
  go_enter Try.func54, Try.ntmps54
  go_wp2_with (first | ((with_reducible refine gate_dst (N := 2) rfl ?_); refine G.be 2 #[.int .i64 0, .slice none 0 0] 29 ?_; intro gb613 hg w22 hbox hb; have n0_ := Aside0.mk (IsS83.below (cI15) hb); have n1_ := Aside0.mk (KeepBut.trans (G.cK HK.out) (KeepBut.of_below hb g none) (.inl rfl)); have n2_ := Aside0.mk (below_step (cBs15 HB.out) hb); have n3_ := Aside0.mk (hbox); have n4_ := Aside0.mk ((c15_4 : w.heap.size ≤ gb613)); have n5_ := Aside0.mk ((Nat.le_trans HW0.out (c15_4 : w.heap.size ≤ gb613) : w0.heap.size ≤ gb613)); have n6_ := Aside0.mk ((by rw [hg]; exact Nat.ne_of_lt (IsS83.lt (show IsS83 w0 _ g s0_0 s0_1 from cI15)) : g ≠ gb613)); have n7_ := Aside0.mk ((by rw [hg]; exact Nat.ne_of_gt (IsS83.lt (show IsS83 w0 _ g s0_0 s0_1 from cI15)) : gb613 ≠ g)); clear HI0 HK HB; revert n0_ n1_ n2_ n3_ n4_ n5_ n6_ n7_; intro HI0 HK HB BK613 GW613 GE613 NB0_613 NB613_0; clear hb hbox hg) | ((with_reducible refine gate_callee (f := 56) rfl ?_); refine goesL_ (some 13) rfl rfl Try.func56 (by kernel_rfl) rfl #[.pointer (some ⟨g, 0, none⟩), .int .i64 4] rfl (G.ar) ?_; (with_reducible refine (spec_l6Rd_pick.calls k g s0_0 s0_1 4 t614 t615 w0 _ ?side1 ?side2 A2.out).mono ?_); (case side1 => exact cI15); (case side2 => exact cBs15 HB.out); rintro e w23 ⟨rfl, hi, hb, hk⟩; refine ⟨_, rfl, ?_⟩; have n0_ := Aside0.mk (KeepBut.blk hk (g' := gb613) (o := .cells #[.int .i64 0, .slice none 0 0] 29 (0, 0)) (G.cb BK613.out) NB613_0.out (by simp)); have n1_ := Aside0.mk (KeepBut.trans (G.cK HK.out) hk (.inl rfl)); have n2_ := Aside0.mk (hb); have n3_ := Aside0.mk (hi); clear BK613 HK HB HI0; revert n0_ n1_ n2_ n3_; intro BK613 HK HB HI0; (try clear hb); (try clear hb2); (try clear hk); (try clear hi)) | ((with_reducible refine gate_callee (f := 56) rfl ?_); refine goesL_ (some 22) rfl rfl Try.func56 (by kernel_rfl) rfl #[.pointer (some ⟨g, 0, none⟩), .int .i64 7] rfl (G.ar) ?_; (with_reducible refine (spec_l6Rd_pick.calls k g s0_0 t615 7 t624 t625 w0 _ ?side1 ?side2 A19.out).mono ?_); (case side1 => exact cI15); (case side2 => exact cBs15 HB.out); rintro e w24 ⟨rfl, hi, hb, hk⟩; refine ⟨_, rfl, ?_⟩; have n0_ := Aside0.mk (KeepBut.blk hk (g' := gb613) (o := .cells #[.int .i64 0, .slice none 0 0] 29 (0, 0)) (G.cb BK613.out) NB613_0.out (by simp)); have n1_ := Aside0.mk (KeepBut.trans (G.cK HK.out) hk (.inl rfl)); have n2_ := Aside0.mk (hb); have n3_ := Aside0.mk (hi); clear BK613 HK HB HI0; revert n0_ n1_ n2_ n3_; intro BK613 HK HB HI0; (try clear hb); (try clear hb2); (try clear hk); (try clear hi)) | ((with_reducible refine gate_dst (N := 5) rfl ?_); refine G.be 5 #[.int .i64 0, .slice none 0 0] 29 ?_; intro gb626 hg w25 hbox hb; have n0_ := Aside0.mk (IsS83.below (cI15) hb); have n1_ := Aside0.mk (blk_below (g := gb613) (o := .cells #[.int .i64 0, .slice none 0 0] 29 (0, 0)) (G.cb BK613.out) hb); have n2_ := Aside0.mk (KeepBut.trans (G.cK HK.out) (KeepBut.of_below hb g none) (.inl rfl)); have n3_ := Aside0.mk (below_step (cBs15 HB.out) hb); have n4_ := Aside0.mk (hbox); have n5_ := Aside0.mk ((c15_4 : w.heap.size ≤ gb626)); have n6_ := Aside0.mk ((Nat.le_trans HW0.out (c15_4 : w.heap.size ≤ gb626) : w0.heap.size ≤ gb626)); have n7_ := Aside0.mk ((c15_2 : gb613 ≠ gb626)); have n8_ := Aside0.mk ((c15_3 : gb626 ≠ gb613)); have n9_ := Aside0.mk ((by rw [hg]; exact Nat.ne_of_lt (IsS83.lt (show IsS83 w0 _ g s0_0 t625 from cI15)) : g ≠ gb626)); have n10_ := Aside0.mk ((by rw [hg]; exact Nat.ne_of_gt (IsS83.lt (show IsS83 w0 _ g s0_0 t625 from cI15)) : gb626 ≠ g)); clear HI0 BK613 HK HB; revert n0_ n1_ n2_ n3_ n4_ n5_ n6_ n7_ n8_ n9_ n10_; intro HI0 BK613 HK HB BK626 GW626 GE626 NB613_626 NB626_613 NB0_626 NB626_0; clear hb hbox hg; have hnb26 := NB626_613.out; have hnc26 := NB613_626.out; have hnb27 := NB626_0.out; have hnc27 := NB0_626.out; have hcz28_0 : w25.cell? ⟨gb626, 0, none⟩ = some (.int .i64 0) := (blk_cell BK626.out 0).trans rfl; have hcz28_1 : w25.cell? ⟨gb626, 1, none⟩ = some (.slice none 0 0) := (blk_cell BK626.out 1).trans rfl; have hfz28_0 := blk_frozen BK626.out 0; have hfz28_1 := blk_frozen BK626.out 1) | ((with_reducible refine gate_callee (f := 56) rfl ?_); refine goesL_ (some 28) rfl rfl Try.func56 (by kernel_rfl) rfl #[.pointer (some ⟨g, 0, none⟩), .int .i64 (wrap64 (2 + t624))] rfl (G.ar) ?_; (with_reducible refine (spec_l6Rd_pick.calls k g s0_0 t625 (wrap64 (2 + t624)) t627 t628 w0 _ ?side1 ?side2 A20.out).mono ?_); (case side1 => exact cI15); (case side2 => exact cBs15 HB.out); rintro e w29 ⟨rfl, hi, hb, hk⟩; refine ⟨_, rfl, ?_⟩; have n0_ := Aside0.mk (KeepBut.blk hk (g' := gb613) (o := .cells #[.int .i64 0, .slice none 0 0] 29 (0, 0)) (by (with_reducible repeat (first | refine blk_drewN ?_ _ | refine blk_drew ?_ | refine blk_alloc ?_ _)); refine blk_far ?_ NB613_626.out _; (with_reducible repeat (first | refine blk_drewN ?_ _ | refine blk_drew ?_ | refine blk_alloc ?_ _)); refine blk_far ?_ NB613_626.out _; (with_reducible repeat (first | refine blk_drewN ?_ _ | refine blk_drew ?_ | refine blk_alloc ?_ _)); exact BK613.out) NB613_0.out (by simp)); have n1_ := Aside0.mk (KeepBut.blk hk (g' := gb626) (o := .cells #[.int .i64 (wrap64 (2 + t624)), .slice none 0 0] 29 (0, 0)) (by (with_reducible repeat (first | refine blk_drewN ?_ _ | refine blk_drew ?_ | refine blk_alloc ?_ _)); refine blk_put (cs := #[.int .i64 (wrap64 (2 + t624)), .slice none 0 0]) ?_ 1 _ rfl; (with_reducible repeat (first | refine blk_drewN ?_ _ | refine blk_drew ?_ | refine blk_alloc ?_ _)); refine blk_put (cs := #[.int .i64 0, .slice none 0 0]) ?_ 0 _ rfl; (with_reducible repeat (first | refine blk_drewN ?_ _ | refine blk_drew ?_ | refine blk_alloc ?_ _)); exact BK626.out) NB626_0.out (by simp)); have n2_ := Aside0.mk (KeepBut.trans (G.cK HK.out) hk (.inl rfl)); have n3_ := Aside0.mk (hb); have n4_ := Aside0.mk (hi); clear BK613 BK626 HK HB HI0; revert n0_ n1_ n2_ n3_ n4_; intro BK613 BK626 HK HB HI0; (try clear hb); (try clear hb2); (try clear hk); (try clear hi)) | ((with_reducible refine gate_callee (f := 56) rfl ?_); refine goesL_ (some 31) rfl rfl Try.func56 (by kernel_rfl) rfl #[.pointer (some ⟨g, 0, none⟩), .int .i64 13] rfl (G.ar) ?_; (with_reducible refine (spec_l6Rd_pick.calls k g s0_0 t628 13 t629 t630 w0 _ ?side1 ?side2 A21.out).mono ?_); (case side1 => exact cI15); (case side2 => exact cBs15 HB.out); rintro e w30 ⟨rfl, hi, hb, hk⟩; refine ⟨_, rfl, ?_⟩; have n0_ := Aside0.mk (KeepBut.blk hk (g' := gb613) (o := .cells #[.int .i64 0, .slice none 0 0] 29 (0, 0)) (G.cb BK613.out) NB613_0.out (by simp)); have n1_ := Aside0.mk (KeepBut.blk hk (g' := gb626) (o := .cells #[.int .i64 (wrap64 (2 + t624)), .slice none 0 0] 29 (0, 0)) (G.cb BK626.out) NB626_0.out (by simp)); have n2_ := Aside0.mk (KeepBut.trans (G.cK HK.out) hk (.inl rfl)); have n3_ := Aside0.mk (hb); have n4_ := Aside0.mk (hi); clear BK613 BK626 HK HB HI0; revert n0_ n1_ n2_ n3_ n4_; intro BK613 BK626 HK HB HI0; (try clear hb); (try clear hb2); (try clear hk); (try clear hi)))
  go_loopg [7, 8] k (fun kq v7 v8 w' => ∃ (x7_1 : Int) (x8_1 : Int) (x1001_1 : Int) (x627000_1 : Int) (x627001_1 : List (S63)) (u627001 : Value), v7 = .int .i64 x7_1 ∧ v8 = .int .i64 x8_1 ∧ Aside0 (spec_l71Trail.l0 kq t627 x7_1 x8_1 s0_0 x1001_1 x627000_1 x627001_1 = some (r1, r2, r3, r4)) ∧ Aside0 (kq ≤ k) ∧ Aside0 (Kd.R k63 63 w' w.heap.size (fun _ => True) u627001 x627001_1) ∧ Aside0 (w'.heap[gb613]? = some (.cells #[.int .i64 0, (.slice none 0 0)] 29 (0, 0))) ∧ Aside0 (w'.heap[gb626]? = some (.cells #[.int .i64 x627000_1, u627001] 29 (0, 0))) ∧ Aside0 (IsS83 w0 w' g s0_0 x1001_1) ∧ Aside0 (KeepBut w w' g none) ∧ Aside0 (Below w0.heap.size w0 w'))
  case atStart => exact ⟨(t627), (t629), (t630), (wrap64 (2 + t624)), (([] : List (S63))), (.slice none 0 0), (c15_5), (c15_5), H', ⟨Nat.le_refl _⟩, ⟨by first | exact Kd.R_nil _ _ _ _ _ | exact Kd.N_nil _ _ _ _ _ | exact Kd.V_nil _ _ _ _ _ | exact Kd.Q_nil _ _ _ _ _ | exact Kd.S_nil _ _ _ _ _⟩, ⟨G.cb BK613.out⟩, ⟨G.cb BK626.out⟩, ⟨cI15⟩, ⟨G.cK HK.out⟩, ⟨cBs15 HB.out⟩⟩
  case round =>
   clear H'
   (try clear c1); (try clear c2); (try clear p2); (try clear c3); (try clear c3b0); (try clear c3b1); (try clear c5); (try clear p6); (try clear c7); (try clear c10); (try clear c11); (try clear c26); (try clear c27); (try clear hcz12_0); (try clear hcz12_1); (try clear hcz28_0); (try clear hcz28_1); (try clear hfz12_0); (try clear hfz12_1); (try clear hfz28_0); (try clear hfz28_1)
   obtain ⟨x7_1, x8_1, x1001_1, x627000_1, x627001_1, u627001, rfl, rfl, HA, HK1, HO_627001, BK613, BK626, HI0, HK, HB⟩ := hrel
   cases gk with
   | zero => exact absurd HA.out (by simp [spec_l71Trail.l0])
   | succ k1 =>
    have H := HA.out
    clear HA
    simp only [spec_l71Trail.l0] at H
    by_cases c31 : x8_1 > 0
    ·rw [if_pos c31] at H
     have c31b0 : decide (0 < x8_1) = true := decide_eq_true c31
     clear c31
     replace H := Option.bind_eq_some_iff.mp H
     obtain ⟨⟨t631, t632⟩, A320, H⟩ := H
     replace H : ((spec_NetAdd.f k1 x627000_1 x627001_1 x7_1 t631).bind fun bt633 => (if bt633.2.2 = true then (spec_l71Trail.l0 k1 t627 t631 (wrap64 (x8_1 - 1)) s0_0 t632 bt633.1 bt633.2.1) else (spec_l71Trail.l0 k1 t627 x7_1 (wrap64 (x8_1 - 1)) s0_0 t632 x627000_1 x627001_1))) = some (r1, r2, r3, r4) := H
     have A32 := Aside0.mk A320
     clear A320
     replace H := Option.bind_eq_some_iff.mp H
     obtain ⟨⟨t633, t634, t637⟩, A330, H⟩ := H
     replace H : (if t637 = true then (spec_l71Trail.l0 k1 t627 t631 (wrap64 (x8_1 - 1)) s0_0 t632 t633 t634) else (spec_l71Trail.l0 k1 t627 x7_1 (wrap64 (x8_1 - 1)) s0_0 t632 x627000_1 x627001_1)) = some (r1, r2, r3, r4) := H
     have A33 := Aside0.mk A330
     clear A330
     by_cases c34 : t637 = true
     ·subst c34
      have H1 : (spec_l71Trail.l0 k1 t627 t631 (wrap64 (x8_1 - 1)) s0_0 t632 t633 t634) = some (r1, r2, r3, r4) := by rw [if_pos rfl] at H; exact H
      clear H
      have H := H1
      clear H1
      have H' := Aside0.mk H
      clear H
      have hnb35 := NB626_613.out
      have hnc35 := NB613_626.out
      have hnb36 := NB626_0.out
      have hnc36 := NB0_626.out
      have hcz37_0 : wr.cell? ⟨gb626, 0, none⟩ = some (.int .i64 x627000_1) := (blk_cell BK626.out 0).trans rfl
      have hcz37_1 : wr.cell? ⟨gb626, 1, none⟩ = some (u627001) := (blk_cell BK626.out 1).trans rfl
      have hfz37_0 := blk_frozen BK626.out 0
      have hfz37_1 := blk_frozen BK626.out 1
      go_wp2_with (first | ((with_reducible refine gate_callee (f := 56) rfl ?_); refine goesL_ (some 39) rfl rfl Try.func56 (by kernel_rfl) rfl #[.pointer (some ⟨g, 0, none⟩), .int .i64 x627000_1] rfl (G.ar) ?_; (with_reducible refine (spec_l6Rd_pick.calls k1 g s0_0 x1001_1 x627000_1 t631 t632 w0 _ ?side1 ?side2 A32.out).mono ?_); (case side1 => exact cI15); (case side2 => exact cBs15 HB.out); rintro e w38 ⟨rfl, hi, hb, hk⟩; refine ⟨_, rfl, ?_⟩; have n0_ := Aside0.mk (Kd.R_mono (Kd.R_keep (IsS83.apart (show IsS83 w0 _ g s0_0 x1001_1 from cI15) (G.cR HO_627001.out) (by decide)) hk (fun _ h => h.2)) (fun _ h => h.1)); have n1_ := Aside0.mk (KeepBut.blk hk (g' := gb613) (o := .cells #[.int .i64 0, .slice none 0 0] 29 (0, 0)) (G.cb BK613.out) NB613_0.out (by simp)); have n2_ := Aside0.mk (KeepBut.blk hk (g' := gb626) (o := .cells #[.int .i64 x627000_1, u627001] 29 (0, 0)) (G.cb BK626.out) NB626_0.out (by simp)); have n3_ := Aside0.mk (KeepBut.trans (G.cK HK.out) hk (.inl rfl)); have n4_ := Aside0.mk (hb); have n5_ := Aside0.mk (hi); clear HO_627001 BK613 BK626 HK HB HI0; revert n0_ n1_ n2_ n3_ n4_ n5_; intro HO_627001 BK613 BK626 HK HB HI0; (try clear hb); (try clear hb2); (try clear hk); (try clear hi); have hcz39_0 : w38.cell? ⟨gb626, 0, none⟩ = some (.int .i64 x627000_1) := (blk_cell BK626.out 0).trans rfl; have hcz39_1 : w38.cell? ⟨gb626, 1, none⟩ = some (u627001) := (blk_cell BK626.out 1).trans rfl; have hfz39_0 := blk_frozen BK626.out 0; have hfz39_1 := blk_frozen BK626.out 1; obtain ⟨Ao40, co40, eo40⟩ := Kd.R_slice HO_627001.out; subst eo40) | ((with_reducible refine gate_callee (f := 72) rfl ?_); refine goesL_ (some 44) rfl rfl Try.func72 (by kernel_rfl) rfl #[.agg #[.int .i64 x627000_1, .slice Ao40 x627001_1.length co40], .int .i64 x7_1, .int .i64 t631] rfl (G.ar) ?_; (with_reducible refine (spec_NetAdd.calls k1 x627000_1 _ _ x627001_1 x7_1 t631 t633 t634 true _ ?side1 ?side2 A33.out).mono ?_); (case side1 => repeat (first | exact (Kd.R_reads' HO_627001.out).2.2 | (with_reducible refine Kd.C_alloc ?_ _) | (with_reducible refine Kd.C_drewN ?_ _) | (with_reducible refine Kd.C_drew ?_))); (case side2 => exact (Kd.R_reads' HO_627001.out).2.1); rintro e w41 ⟨v635, rfl, ho0, hb⟩; refine ⟨_, rfl, ?_⟩; have n0_ := Aside0.mk (Kd.R_elder' (G.cR HO_627001.out) (Kd.R_base ho0) hb); have n1_ := Aside0.mk (Kd.R_lower (Kd.R_new' ho0 (Kd.R_lt (G.cR HO_627001.out))) (keep_size (w := w) (g := g) (row := none) (G.cK HK.out))); have n2_ := Aside0.mk (blk_below (g := gb613) (o := .cells #[.int .i64 0, .slice none 0 0] 29 (0, 0)) (G.cb BK613.out) hb); have n3_ := Aside0.mk (blk_below (g := gb626) (o := .cells #[.int .i64 x627000_1, .slice Ao40 x627001_1.length co40] 29 (0, 0)) (G.cb BK626.out) hb); have n4_ := Aside0.mk (IsS83.below (cI15) hb); have n5_ := Aside0.mk (KeepBut.trans (G.cK HK.out) (KeepBut.of_below hb g none) (.inl rfl)); have n6_ := Aside0.mk (below_step (cBs15 HB.out) hb); clear HO_627001 BK613 BK626 HI0 HK HB; revert n0_ n1_ n2_ n3_ n4_ n5_ n6_; intro HO_627001 HO636 BK613 BK626 HI0 HK HB; (try clear hb); (try clear hb2); (try clear hk); (try clear hi); (try clear ho0)) | ((with_reducible refine gate_dst (N := 10) rfl ?_); refine G.be 10 #[.int .i64 0, .slice none 0 0] 29 ?_; intro gb638 hg w42 hbox hb; have n0_ := Aside0.mk (Kd.R_below (G.cR HO_627001.out) hb); have n1_ := Aside0.mk (Kd.R_below (G.cR HO636.out) hb); have n2_ := Aside0.mk (blk_below (g := gb613) (o := .cells #[.int .i64 0, .slice none 0 0] 29 (0, 0)) (G.cb BK613.out) hb); have n3_ := Aside0.mk (blk_below (g := gb626) (o := .cells #[.int .i64 x627000_1, .slice Ao40 x627001_1.length co40] 29 (0, 0)) (G.cb BK626.out) hb); have n4_ := Aside0.mk (IsS83.below (cI15) hb); have n5_ := Aside0.mk (KeepBut.trans (G.cK HK.out) (KeepBut.of_below hb g none) (.inl rfl)); have n6_ := Aside0.mk (below_step (cBs15 HB.out) hb); have n7_ := Aside0.mk (hbox); have n8_ := Aside0.mk ((c15_4 : w.heap.size ≤ gb638)); have n9_ := Aside0.mk ((Nat.le_trans HW0.out (c15_4 : w.heap.size ≤ gb638) : w0.heap.size ≤ gb638)); have n10_ := Aside0.mk ((c15_2 : gb613 ≠ gb638)); have n11_ := Aside0.mk ((c15_3 : gb638 ≠ gb613)); have n12_ := Aside0.mk ((by rw [hg]; exact Nat.ne_of_lt (blk_lt (g := gb626) (o := .cells #[.int .i64 x627000_1, .slice Ao40 x627001_1.length co40] 29 (0, 0)) (G.cb BK626.out)) : gb626 ≠ gb638)); have n13_ := Aside0.mk ((by rw [hg]; exact Nat.ne_of_gt (blk_lt (g := gb626) (o := .cells #[.int .i64 x627000_1, .slice Ao40 x627001_1.length co40] 29 (0, 0)) (G.cb BK626.out)) : gb638 ≠ gb626)); have n14_ := Aside0.mk ((by rw [hg]; exact Nat.ne_of_lt (IsS83.lt (show IsS83 w0 _ g s0_0 t632 from cI15)) : g ≠ gb638)); have n15_ := Aside0.mk ((by rw [hg]; exact Nat.ne_of_gt (IsS83.lt (show IsS83 w0 _ g s0_0 t632 from cI15)) : gb638 ≠ g)); clear HO_627001 HO636 BK613 BK626 HI0 HK HB; revert n0_ n1_ n2_ n3_ n4_ n5_ n6_ n7_ n8_ n9_ n10_ n11_ n12_ n13_ n14_ n15_; intro HO_627001 HO636 BK613 BK626 HI0 HK HB BK638 GW638 GE638 NB613_638 NB638_613 NB626_638 NB638_626 NB0_638 NB638_0; clear hb hbox hg; have hnb43 := NB638_613.out; have hnc43 := NB613_638.out; have hnb44 := NB638_626.out; have hnc44 := NB626_638.out; have hnb45 := NB638_0.out; have hnc45 := NB0_638.out; have hcz46_0 : w42.cell? ⟨gb638, 0, none⟩ = some (.int .i64 0) := (blk_cell BK638.out 0).trans rfl; have hcz46_1 : w42.cell? ⟨gb638, 1, none⟩ = some (.slice none 0 0) := (blk_cell BK638.out 1).trans rfl; have hfz46_0 := blk_frozen BK638.out 0; have hfz46_1 := blk_frozen BK638.out 1; obtain ⟨Ao47, co47, eo47⟩ := Kd.R_slice HO636.out; subst eo47; have hcz48_0 : w42.cell? ⟨gb626, 0, none⟩ = some (.int .i64 x627000_1) := (blk_cell BK626.out 0).trans rfl; have hcz48_1 : w42.cell? ⟨gb626, 1, none⟩ = some (.slice Ao40 x627001_1.length co40) := (blk_cell BK626.out 1).trans rfl; have hfz48_0 := blk_frozen BK626.out 0; have hfz48_1 := blk_frozen BK626.out 1))
      go_roundg k1
      case measure => have := HK1.out; omega
      case rel => exact ⟨(t631), (wrap64 (x8_1 - 1)), (t632), (t633), (t634), (.slice Ao47 t634.length co47), (c15_5), (c15_5), H', ⟨by have := HK1.out; omega⟩, ⟨by (with_reducible repeat (first | apply Kd.R_alloc | apply Kd.R_drewN | apply Kd.R_drew)); exact Kd.R_mono (Kd.R_far (p := ⟨gb626, 1, none⟩) (Kd.R_far (p := ⟨gb626, 0, none⟩) (Kd.R_far (p := ⟨gb638, 1, none⟩) (Kd.R_far (p := ⟨gb638, 0, none⟩) (Kd.R_types (Kd.R_types HO636.out BK638.out (by decide)) BK626.out (by decide)) (fun _ hk => hk.1.2) (.int .i64 t633)) (fun _ hk => hk.1.2) (.slice Ao47 t634.length co47)) (fun _ hk => hk.2) (.int .i64 t633)) (fun _ hk => hk.2) (.slice Ao47 t634.length co47)) (fun _ hk => trivial)⟩, ⟨by (with_reducible repeat (first | refine blk_drewN ?_ _ | refine blk_drew ?_ | refine blk_alloc ?_ _)); refine blk_far ?_ NB613_626.out _; (with_reducible repeat (first | refine blk_drewN ?_ _ | refine blk_drew ?_ | refine blk_alloc ?_ _)); refine blk_far ?_ NB613_626.out _; (with_reducible repeat (first | refine blk_drewN ?_ _ | refine blk_drew ?_ | refine blk_alloc ?_ _)); refine blk_far ?_ NB613_638.out _; (with_reducible repeat (first | refine blk_drewN ?_ _ | refine blk_drew ?_ | refine blk_alloc ?_ _)); refine blk_far ?_ NB613_638.out _; (with_reducible repeat (first | refine blk_drewN ?_ _ | refine blk_drew ?_ | refine blk_alloc ?_ _)); exact BK613.out⟩, ⟨by (with_reducible repeat (first | refine blk_drewN ?_ _ | refine blk_drew ?_ | refine blk_alloc ?_ _)); refine blk_put (cs := #[.int .i64 t633, .slice Ao40 x627001_1.length co40]) ?_ 1 _ rfl; (with_reducible repeat (first | refine blk_drewN ?_ _ | refine blk_drew ?_ | refine blk_alloc ?_ _)); refine blk_put (cs := #[.int .i64 x627000_1, .slice Ao40 x627001_1.length co40]) ?_ 0 _ rfl; (with_reducible repeat (first | refine blk_drewN ?_ _ | refine blk_drew ?_ | refine blk_alloc ?_ _)); refine blk_far ?_ NB626_638.out _; (with_reducible repeat (first | refine blk_drewN ?_ _ | refine blk_drew ?_ | refine blk_alloc ?_ _)); refine blk_far ?_ NB626_638.out _; (with_reducible repeat (first | refine blk_drewN ?_ _ | refine blk_drew ?_ | refine blk_alloc ?_ _)); exact BK626.out⟩, ⟨cI15⟩, ⟨G.cK HK.out⟩, ⟨cBs15 HB.out⟩⟩
     ·replace c34 := Bool.eq_false_iff.mpr c34
      subst c34
      have H1 : (spec_l71Trail.l0 k1 t627 x7_1 (wrap64 (x8_1 - 1)) s0_0 t632 x627000_1 x627001_1) = some (r1, r2, r3, r4) := by rw [if_neg (show ¬ (false = true) by decide)] at H; exact H
      clear H
      have H := H1
      clear H1
      have H' := Aside0.mk H
      clear H
      have hnb49 := NB626_613.out
      have hnc49 := NB613_626.out
      have hnb50 := NB626_0.out
      have hnc50 := NB0_626.out
      have hcz51_0 : wr.cell? ⟨gb626, 0, none⟩ = some (.int .i64 x627000_1) := (blk_cell BK626.out 0).trans rfl
      have hcz51_1 : wr.cell? ⟨gb626, 1, none⟩ = some (u627001) := (blk_cell BK626.out 1).trans rfl
      have hfz51_0 := blk_frozen BK626.out 0
      have hfz51_1 := blk_frozen BK626.out 1
      go_wp2_with (first | ((with_reducible refine gate_callee (f := 56) rfl ?_); refine goesL_ (some 39) rfl rfl Try.func56 (by kernel_rfl) rfl #[.pointer (some ⟨g, 0, none⟩), .int .i64 x627000_1] rfl (G.ar) ?_; (with_reducible refine (spec_l6Rd_pick.calls k1 g s0_0 x1001_1 x627000_1 t631 t632 w0 _ ?side1 ?side2 A32.out).mono ?_); (case side1 => exact cI15); (case side2 => exact cBs15 HB.out); rintro e w52 ⟨rfl, hi, hb, hk⟩; refine ⟨_, rfl, ?_⟩; have n0_ := Aside0.mk (Kd.R_mono (Kd.R_keep (IsS83.apart (show IsS83 w0 _ g s0_0 x1001_1 from cI15) (G.cR HO_627001.out) (by decide)) hk (fun _ h => h.2)) (fun _ h => h.1)); have n1_ := Aside0.mk (KeepBut.blk hk (g' := gb613) (o := .cells #[.int .i64 0, .slice none 0 0] 29 (0, 0)) (G.cb BK613.out) NB613_0.out (by simp)); have n2_ := Aside0.mk (KeepBut.blk hk (g' := gb626) (o := .cells #[.int .i64 x627000_1, u627001] 29 (0, 0)) (G.cb BK626.out) NB626_0.out (by simp)); have n3_ := Aside0.mk (KeepBut.trans (G.cK HK.out) hk (.inl rfl)); have n4_ := Aside0.mk (hb); have n5_ := Aside0.mk (hi); clear HO_627001 BK613 BK626 HK HB HI0; revert n0_ n1_ n2_ n3_ n4_ n5_; intro HO_627001 BK613 BK626 HK HB HI0; (try clear hb); (try clear hb2); (try clear hk); (try clear hi); have hcz53_0 : w52.cell? ⟨gb626, 0, none⟩ = some (.int .i64 x627000_1) := (blk_cell BK626.out 0).trans rfl; have hcz53_1 : w52.cell? ⟨gb626, 1, none⟩ = some (u627001) := (blk_cell BK626.out 1).trans rfl; have hfz53_0 := blk_frozen BK626.out 0; have hfz53_1 := blk_frozen BK626.out 1; obtain ⟨Ao54, co54, eo54⟩ := Kd.R_slice HO_627001.out; subst eo54) | ((with_reducible refine gate_callee (f := 72) rfl ?_); refine goesL_ (some 44) rfl rfl Try.func72 (by kernel_rfl) rfl #[.agg #[.int .i64 x627000_1, .slice Ao54 x627001_1.length co54], .int .i64 x7_1, .int .i64 t631] rfl (G.ar) ?_; (with_reducible refine (spec_NetAdd.calls k1 x627000_1 _ _ x627001_1 x7_1 t631 t633 t634 false _ ?side1 ?side2 A33.out).mono ?_); (case side1 => repeat (first | exact (Kd.R_reads' HO_627001.out).2.2 | (with_reducible refine Kd.C_alloc ?_ _) | (with_reducible refine Kd.C_drewN ?_ _) | (with_reducible refine Kd.C_drew ?_))); (case side2 => exact (Kd.R_reads' HO_627001.out).2.1); rintro e w55 ⟨v635, rfl, ho0, hb⟩; refine ⟨_, rfl, ?_⟩; have n0_ := Aside0.mk (Kd.R_elder' (G.cR HO_627001.out) (Kd.R_base ho0) hb); have n1_ := Aside0.mk (Kd.R_lower (Kd.R_new' ho0 (Kd.R_lt (G.cR HO_627001.out))) (keep_size (w := w) (g := g) (row := none) (G.cK HK.out))); have n2_ := Aside0.mk (blk_below (g := gb613) (o := .cells #[.int .i64 0, .slice none 0 0] 29 (0, 0)) (G.cb BK613.out) hb); have n3_ := Aside0.mk (blk_below (g := gb626) (o := .cells #[.int .i64 x627000_1, .slice Ao54 x627001_1.length co54] 29 (0, 0)) (G.cb BK626.out) hb); have n4_ := Aside0.mk (IsS83.below (cI15) hb); have n5_ := Aside0.mk (KeepBut.trans (G.cK HK.out) (KeepBut.of_below hb g none) (.inl rfl)); have n6_ := Aside0.mk (below_step (cBs15 HB.out) hb); clear HO_627001 BK613 BK626 HI0 HK HB; revert n0_ n1_ n2_ n3_ n4_ n5_ n6_; intro HO_627001 HO636 BK613 BK626 HI0 HK HB; (try clear hb); (try clear hb2); (try clear hk); (try clear hi); (try clear ho0)) | ((with_reducible refine gate_dst (N := 10) rfl ?_); refine G.be 10 #[.int .i64 0, .slice none 0 0] 29 ?_; intro gb638 hg w56 hbox hb; have n0_ := Aside0.mk (Kd.R_below (G.cR HO_627001.out) hb); have n1_ := Aside0.mk (Kd.R_below (G.cR HO636.out) hb); have n2_ := Aside0.mk (blk_below (g := gb613) (o := .cells #[.int .i64 0, .slice none 0 0] 29 (0, 0)) (G.cb BK613.out) hb); have n3_ := Aside0.mk (blk_below (g := gb626) (o := .cells #[.int .i64 x627000_1, .slice Ao54 x627001_1.length co54] 29 (0, 0)) (G.cb BK626.out) hb); have n4_ := Aside0.mk (IsS83.below (cI15) hb); have n5_ := Aside0.mk (KeepBut.trans (G.cK HK.out) (KeepBut.of_below hb g none) (.inl rfl)); have n6_ := Aside0.mk (below_step (cBs15 HB.out) hb); have n7_ := Aside0.mk (hbox); have n8_ := Aside0.mk ((c15_4 : w.heap.size ≤ gb638)); have n9_ := Aside0.mk ((Nat.le_trans HW0.out (c15_4 : w.heap.size ≤ gb638) : w0.heap.size ≤ gb638)); have n10_ := Aside0.mk ((c15_2 : gb613 ≠ gb638)); have n11_ := Aside0.mk ((c15_3 : gb638 ≠ gb613)); have n12_ := Aside0.mk ((by rw [hg]; exact Nat.ne_of_lt (blk_lt (g := gb626) (o := .cells #[.int .i64 x627000_1, .slice Ao54 x627001_1.length co54] 29 (0, 0)) (G.cb BK626.out)) : gb626 ≠ gb638)); have n13_ := Aside0.mk ((by rw [hg]; exact Nat.ne_of_gt (blk_lt (g := gb626) (o := .cells #[.int .i64 x627000_1, .slice Ao54 x627001_1.length co54] 29 (0, 0)) (G.cb BK626.out)) : gb638 ≠ gb626)); have n14_ := Aside0.mk ((by rw [hg]; exact Nat.ne_of_lt (IsS83.lt (show IsS83 w0 _ g s0_0 t632 from cI15)) : g ≠ gb638)); have n15_ := Aside0.mk ((by rw [hg]; exact Nat.ne_of_gt (IsS83.lt (show IsS83 w0 _ g s0_0 t632 from cI15)) : gb638 ≠ g)); clear HO_627001 HO636 BK613 BK626 HI0 HK HB; revert n0_ n1_ n2_ n3_ n4_ n5_ n6_ n7_ n8_ n9_ n10_ n11_ n12_ n13_ n14_ n15_; intro HO_627001 HO636 BK613 BK626 HI0 HK HB BK638 GW638 GE638 NB613_638 NB638_613 NB626_638 NB638_626 NB0_638 NB638_0; clear hb hbox hg; have hnb57 := NB638_613.out; have hnc57 := NB613_638.out; have hnb58 := NB638_626.out; have hnc58 := NB626_638.out; have hnb59 := NB638_0.out; have hnc59 := NB0_638.out; have hcz60_0 : w56.cell? ⟨gb638, 0, none⟩ = some (.int .i64 0) := (blk_cell BK638.out 0).trans rfl; have hcz60_1 : w56.cell? ⟨gb638, 1, none⟩ = some (.slice none 0 0) := (blk_cell BK638.out 1).trans rfl; have hfz60_0 := blk_frozen BK638.out 0; have hfz60_1 := blk_frozen BK638.out 1; obtain ⟨Ao61, co61, eo61⟩ := Kd.R_slice HO636.out; subst eo61))
      go_roundg k1
      case measure => have := HK1.out; omega
      case rel => exact ⟨(x7_1), (wrap64 (x8_1 - 1)), (t632), (x627000_1), (x627001_1), (.slice Ao54 x627001_1.length co54), (c15_5), (c15_5), H', ⟨by have := HK1.out; omega⟩, ⟨by (with_reducible repeat (first | apply Kd.R_alloc | apply Kd.R_drewN | apply Kd.R_drew)); exact Kd.R_mono (Kd.R_far (p := ⟨gb638, 1, none⟩) (Kd.R_far (p := ⟨gb638, 0, none⟩) (Kd.R_types HO_627001.out BK638.out (by decide)) (fun _ hk => hk.2) (.int .i64 t633)) (fun _ hk => hk.2) (.slice Ao61 t634.length co61)) (fun _ hk => trivial)⟩, ⟨by (with_reducible repeat (first | refine blk_drewN ?_ _ | refine blk_drew ?_ | refine blk_alloc ?_ _)); refine blk_far ?_ NB613_638.out _; (with_reducible repeat (first | refine blk_drewN ?_ _ | refine blk_drew ?_ | refine blk_alloc ?_ _)); refine blk_far ?_ NB613_638.out _; (with_reducible repeat (first | refine blk_drewN ?_ _ | refine blk_drew ?_ | refine blk_alloc ?_ _)); exact BK613.out⟩, ⟨by (with_reducible repeat (first | refine blk_drewN ?_ _ | refine blk_drew ?_ | refine blk_alloc ?_ _)); refine blk_far ?_ NB626_638.out _; (with_reducible repeat (first | refine blk_drewN ?_ _ | refine blk_drew ?_ | refine blk_alloc ?_ _)); refine blk_far ?_ NB626_638.out _; (with_reducible repeat (first | refine blk_drewN ?_ _ | refine blk_drew ?_ | refine blk_alloc ?_ _)); exact BK626.out⟩, ⟨cI15⟩, ⟨G.cK HK.out⟩, ⟨cBs15 HB.out⟩⟩
    ·rw [if_neg c31] at H
     have c31b0 : decide (0 < x8_1) = false := decide_eq_false c31
     clear c31
     simp only [Option.some.injEq, Prod.mk.injEq] at H
     obtain ⟨rfl, rfl, rfl, rfl⟩ := H
     have hnb62 := NB626_613.out
     have hnc62 := NB613_626.out
     have hnb63 := NB626_0.out
     have hnc63 := NB0_626.out
     have hcz64_0 : wr.cell? ⟨gb626, 0, none⟩ = some (.int .i64 x627000_1) := (blk_cell BK626.out 0).trans rfl
     have hcz64_1 : wr.cell? ⟨gb626, 1, none⟩ = some (u627001) := (blk_cell BK626.out 1).trans rfl
     have hfz64_0 := blk_frozen BK626.out 0
     have hfz64_1 := blk_frozen BK626.out 1
     have hnb65 := NB613_0.out
     have hnc65 := NB0_613.out
     have hcz66_0 : wr.cell? ⟨gb613, 0, none⟩ = some (.int .i64 0) := (blk_cell BK613.out 0).trans rfl
     have hcz66_1 : wr.cell? ⟨gb613, 1, none⟩ = some (.slice none 0 0) := (blk_cell BK613.out 1).trans rfl
     have hfz66_0 := blk_frozen BK613.out 0
     have hfz66_1 := blk_frozen BK613.out 1
     obtain ⟨Ao67, co67, eo67⟩ := Kd.R_slice HO_627001.out
     subst eo67
     go_wp2
     refine bodyPost_ret (results_ct rfl _ _ gb613 29 #[.int .i64 x627000_1, .slice Ao67 x627001_1.length co67] (0, 0) _ rfl (by (with_reducible repeat (first | refine blk_drewN ?_ _ | refine blk_drew ?_ | refine blk_alloc ?_ _)); refine blk_put (cs := #[.int .i64 x627000_1, .slice none 0 0]) ?_ 1 _ rfl; (with_reducible repeat (first | refine blk_drewN ?_ _ | refine blk_drew ?_ | refine blk_alloc ?_ _)); refine blk_put (cs := #[.int .i64 0, .slice none 0 0]) ?_ 0 _ rfl; (with_reducible repeat (first | refine blk_drewN ?_ _ | refine blk_drew ?_ | refine blk_alloc ?_ _)); exact BK613.out) Try.underlying29 rfl (by kernel_rfl)) rfl ?_
     exact ⟨_, by first | rfl | (simp [errW_none, errW_some] <;> rfl) | (simp [*, errW_none, errW_some] <;> rfl), by (with_reducible repeat (first | apply Kd.R_alloc | apply Kd.R_drewN | apply Kd.R_drew)); exact Kd.R_mono (Kd.R_far (p := ⟨gb613, 1, none⟩) (Kd.R_far (p := ⟨gb613, 0, none⟩) (Kd.R_types HO_627001.out BK613.out (by decide)) (fun _ hk => hk.2) (.int .i64 x627000_1)) (fun _ hk => hk.2) (.slice Ao67 x627001_1.length co67)) (fun _ hk => trivial), cI15, cBs15 HB.out, G.cK HK.out⟩

/-! ### spec_l6Open: function 55 -/
def spec_l6Open.f (l0 : List Int) : Option (List Int × Int) := if (l0.length : Int) > 2000 then (if 2000 ≤ (l0.length : Int) then (some (l0.take 2000, 0)) else (none)) else (some (l0, 0))
set_option maxHeartbeats 8000000 in
set_option maxRecDepth 100000 in
theorem spec_l6Open.calls (A0 : Option Addr) (c0 : Nat) (l0 : List Int) (r1 : List Int) (r2 : Int) (w0 w : World) (hB : Below w0.heap.size w0 w) (hr0 : Kd.C (Kd.int .u8) w0 A0 l0.length l0) (hc0 : l0.length ≤ c0) (h : spec_l6Open.f l0 = some (r1, r2)) :
  Calls Try.prog 55 #[.slice A0 l0.length c0] w fun e w' => ∃ g_ : Nat, e = .returned (.pointer (some ⟨g_, 0, none⟩)) ∧ IsS83 w0 w' g_ r1 r2 ∧ Below w0.heap.size w0 w' ∧ Below w.heap.size w w' := by
 have hu83 := Try.underlying83
 have HR0 := Aside0.mk hr0
 have HC0 := Aside0.mk hc0
 clear hr0 hc0
 have HBW := Aside0.mk (Below.refl w.heap.size w)
 have HW0 := Aside0.mk hB.size
 have HB := Aside0.mk hB
 clear hB
 have H : (if (l0.length : Int) > 2000 then (if 2000 ≤ (l0.length : Int) then (some (l0.take 2000, 0)) else (none)) else (some (l0, 0))) = some (r1, r2) := h
 clear h
 by_cases c2 : (l0.length : Int) > 2000
 ·rw [if_pos c2] at H
  have c2b0 : decide (2000 < (l0.length : Int)) = true := decide_eq_true c2
  have c2b1 : decide (2000 < l0.length) = true := decide_eq_true (by omega)
  clear c2
  by_cases c3 : 2000 ≤ (l0.length : Int)
  ·rw [if_pos c3] at H
   have c3b0 := eq_true c3
   have c3b1 : decide (2000 ≤ (l0.length : Int)) = true := decide_eq_true c3
   clear c3
   simp only [Option.some.injEq, Prod.mk.injEq] at H
   obtain ⟨rfl, rfl⟩ := H
   obtain ⟨i04, hi04, _, hsz4, _⟩ := info_parts info5
   obtain ⟨hcut4, hA4, hC4⟩ := print_take_of (P := Try.prog) (Value.int .u8) 0 42 5 .i64 Try.underlying42 hi04 hsz4 A0 c0 l0 2000 (by omega) (of_decide_eq_true (G.asm)) HC0.out
   have HR639 := Aside0.mk (Kd.C_of_reads (h1 := fun _ => rfl) (hA4 _ (Kd.reads_of_C HR0.out)))
   have HC639 := Aside0.mk hC4
   clear hA4 hC4 hi04 hsz4
   go_enter Try.func55, Try.ntmps55
   go_wp2_with (first | ((with_reducible refine gate_dst (N := 10) rfl ?_); refine G.be 10 #[.slice A0 (l0.take 2000).length c0, .int .i64 0] 83 ?_; intro gb640 hg w5 hbox hb; have n0_ := Aside0.mk (below_step HBW.out hb); have n1_ := Aside0.mk (below_step (G.cB HB.out) hb); have n2_ := Aside0.mk (hbox); have n3_ := Aside0.mk ((c15_0 : w.heap.size ≤ gb640)); have n4_ := Aside0.mk ((Nat.le_trans HW0.out (c15_0 : w.heap.size ≤ gb640) : w0.heap.size ≤ gb640)); clear HBW HB; revert n0_ n1_ n2_ n3_ n4_; intro HBW HB BK640 GW640 GE640; clear hb hbox hg))
   go_ret
   exact ⟨_, rfl, (show IsS83 w0 _ gb640 (l0.take 2000) 0 from ⟨_, _, G.cb BK640.out, GE640.out, HR639.out⟩), G.cB HB.out, by repeat (first | (with_reducible first | exact HBW.out | apply below_alloc | apply pw_below_drewN | apply below_drew1 | refine below_set ?_ GW640.out) | exact HBW.out)⟩
  ·rw [if_neg c3] at H
   exact absurd H (by simp)
 ·rw [if_neg c2] at H
  have c2b0 : decide (2000 < (l0.length : Int)) = false := decide_eq_false c2
  have c2b1 : decide (2000 < l0.length) = false := decide_eq_false (by omega)
  clear c2
  simp only [Option.some.injEq, Prod.mk.injEq] at H
  obtain ⟨rfl, rfl⟩ := H
  go_enter Try.func55, Try.ntmps55
  go_wp2_with (first | ((with_reducible refine gate_dst (N := 10) rfl ?_); refine G.be 10 #[.slice A0 l0.length c0, .int .i64 0] 83 ?_; intro gb641 hg w6 hbox hb; have n0_ := Aside0.mk (below_step HBW.out hb); have n1_ := Aside0.mk (below_step (G.cB HB.out) hb); have n2_ := Aside0.mk (hbox); have n3_ := Aside0.mk ((c15_0 : w.heap.size ≤ gb641)); have n4_ := Aside0.mk ((Nat.le_trans HW0.out (c15_0 : w.heap.size ≤ gb641) : w0.heap.size ≤ gb641)); clear HBW HB; revert n0_ n1_ n2_ n3_ n4_; intro HBW HB BK641 GW641 GE641; clear hb hbox hg))
  go_ret
  exact ⟨_, rfl, (show IsS83 w0 _ gb641 l0 0 from ⟨_, _, G.cb BK641.out, GE641.out, HR0.out⟩), G.cB HB.out, by repeat (first | (with_reducible first | exact HBW.out | apply below_alloc | apply pw_below_drewN | apply below_drew1 | refine below_set ?_ GW641.out) | exact HBW.out)⟩

end Go.Proofs.Ytbkdpnfjcnkoeaa.P
