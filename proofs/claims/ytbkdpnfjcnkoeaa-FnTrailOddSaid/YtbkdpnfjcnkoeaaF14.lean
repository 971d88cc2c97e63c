-- Printed by a program of this session (mp.py, over the kit's print). Not trusted: Lean checks it.
import Derived.Test.YtbkdpnfjcnkoeaaF0
import Derived.Test.YtbkdpnfjcnkoeaaF10
import Derived.Test.YtbkdpnfjcnkoeaaF12
import Derived.Test.YtbkdpnfjcnkoeaaF13
namespace Go.Proofs.Ytbkdpnfjcnkoeaa.P
open Go.RowKit Go.Proofs.YtbkdpnfjcnkoeaaW.PrintWords Go.Proofs.YtbkdpnfjcnkoeaaW.PrintLast Go.Proofs.YtbkdpnfjcnkoeaaW.PrintMore
attribute [local go_sem] max2_int min2_int max_two min_two max_three min_three max_four min_four   -- for this text's walks alone
set_option linter.unusedVariables false
set_option linter.unusedSimpArgs false

theorem c14_0 {p : Prop} (h : p := by (with_reducible repeat (first | refine blk_drewN ?_ _ | refine blk_drew ?_ | refine blk_alloc ?_ _)); refine blk_put (cs := #[.int .i64 t589, .slice none 0 0]) ?_ 1 _ rfl; (with_reducible repeat (first | refine blk_drewN ?_ _ | refine blk_drew ?_ | refine blk_alloc ?_ _)); refine blk_put (cs := #[.int .i64 0, .slice none 0 0]) ?_ 0 _ rfl; (with_reducible repeat (first | refine blk_drewN ?_ _ | refine blk_drew ?_ | refine blk_alloc ?_ _)); exact BK594.out) : p := h
theorem c14_1 {p : Prop} (h : p := by (with_reducible repeat (first | refine blk_drewN ?_ _ | refine blk_drew ?_ | refine blk_alloc ?_ _)); refine blk_far ?_ NB588_594.out _; (with_reducible repeat (first | refine blk_drewN ?_ _ | refine blk_drew ?_ | refine blk_alloc ?_ _)); refine blk_far ?_ NB588_594.out _; (with_reducible repeat (first | refine blk_drewN ?_ _ | refine blk_drew ?_ | refine blk_alloc ?_ _)); exact BK588.out) : p := h
theorem c14_2 {p : Prop} (h : p := by rw [hg]; exact Nat.ne_of_lt (IsS83.lt (show IsS83 w0 _ g s0_0 s0_1 from cI14))) : p := h
theorem c14_3 {p : Prop} (h : p := by rw [hg]; exact Nat.ne_of_gt (IsS83.lt (show IsS83 w0 _ g s0_0 s0_1 from cI14))) : p := h
theorem c14_4 {p : Prop} (h : p := by rw [hg]; exact (keep_size (w := w) (g := g) (row := none) (G.cK HK.out))) : p := h
theorem c14_5 {p : Prop} (h : p := by kernel_rfl) : p := h
theorem cI14 {p : Prop} (h : p := by repeat (first | (with_reducible first | exact HI0.out | apply IsS83.alloc | apply IsS83.drewN | apply IsS83.drew | apply IsS83.set_1) | (with_reducible refine IsS83.far ?_ (Aside0.out (by assumption)) _) | exact HI0.out)) : p := h
theorem cBs14 {B : Nat} {w w1 w2 : World} (H : Below B w w1) (h : Below B w w2 := by repeat (first | (with_reducible first | exact HB.out | apply below_alloc | apply pw_below_drewN | apply below_drew1) | (with_reducible refine below_set ?_ (Aside0.out (by assumption))) | (with_reducible refine below_set ?_ (IsS83.ge HI0.out)) | exact HB.out)) : Below B w w2 := h
/-! ### spec_l71Any: function 70 -/
def spec_l71Any.f (k : Nat) (s0_0 : List Int) (s0_1 : Int) : Option (Int × (List (S63)) × Int) := (spec_l71Net.f k s0_0 s0_1).bind fun bt589 => ((spec_l6Rd_pick.f k s0_0 bt589.2.2 12).bind fun bt595 => (if bt595.1 = 0 then ((spec_l71Spoil.f k s0_0 bt595.2 bt589.1 bt589.2.1).bind fun bt597 => (some (bt597.1, bt597.2.1, bt597.2.2))) else (some (bt589.1, bt589.2.1, bt595.2))))
theorem spec_l71Any.mono : ∀ a0 a1 k, LeO (spec_l71Any.f k a0 a1) (spec_l71Any.f (k + 1) a0 a1) := by
 intro a0 a1 k
 unfold spec_l71Any.f
 repeat' first
   | (with_reducible exact spec_l6Rd_pick.mono _ _ _ _)
   | (with_reducible exact spec_l71Net.mono _ _ _)
   | (with_reducible exact spec_l71Spoil.mono _ _ _ _ _)
   | (with_reducible exact LeO.refl _)
   | (with_reducible exact LeO.none _)
   | (with_reducible refine LeO.ite ?_ ?_)
   | (with_reducible refine LeO.bind ?_ (fun _ => ?_))
   | exact spec_l6Rd_pick.mono _ _ _ _
   | exact spec_l71Net.mono _ _ _
   | exact spec_l71Spoil.mono _ _ _ _ _
   | exact LeO.none _
   | refine LeO.ite ?_ ?_
   | refine LeO.bind ?_ (fun _ => ?_)
set_option maxHeartbeats 8000000 in
set_option maxRecDepth 100000 in
theorem spec_l71Any.calls (k : Nat) (g : Nat) (s0_0 : List Int) (s0_1 : Int) (r1 : Int) (r2 : List (S63)) (r3 : Int) (w0 w : World) (hI : IsS83 w0 w g s0_0 s0_1) (hB : Below w0.heap.size w0 w) (h : spec_l71Any.f k s0_0 s0_1 = some (r1, r2, r3)) :
  Calls Try.prog 70 #[.pointer (some ⟨g, 0, none⟩)] w fun e w' => ∃ v1_ : Value, e = .returned (.agg #[.int .i64 r1, v1_]) ∧ Kd.R k63 63 w' w.heap.size (fun _ => True) v1_ r2 ∧ IsS83 w0 w' g s0_0 r3 ∧ Below w0.heap.size w0 w' ∧ KeepBut w w' g none := by
 have hu29 := Try.underlying29
 have HI0 := Aside0.mk hI
 have HK := Aside0.mk (KeepBut.refl w g none)
 have HL := Aside0.mk hB.size
 clear hI
 have HW0 := Aside0.mk hB.size
 have HB := Aside0.mk hB
 clear hB
 have H : ((spec_l71Net.f k s0_0 s0_1).bind fun bt589 => ((spec_l6Rd_pick.f k s0_0 bt589.2.2 12).bind fun bt595 => (if bt595.1 = 0 then ((spec_l71Spoil.f k s0_0 bt595.2 bt589.1 bt589.2.1).bind fun bt597 => (some (bt597.1, bt597.2.1, bt597.2.2))) else (some (bt589.1, bt589.2.1, bt595.2))))) = some (r1, r2, r3) := h
 clear h
 replace H := Option.bind_eq_some_iff.mp H
 obtain ⟨⟨t589, t590, t593⟩, A20, H⟩ := H
 replace H : ((spec_l6Rd_pick.f k s0_0 t593 12).bind fun bt595 => (if bt595.1 = 0 then ((spec_l71Spoil.f k s0_0 bt595.2 t589 t590).bind fun bt597 => (some (bt597.1, bt597.2.1, bt597.2.2))) else (some (t589, t590, bt595.2)))) = some (r1, r2, r3) := H
 have A2 := Aside0.mk A20
 clear A20
 replace H := Option.bind_eq_some_iff.mp H
 obtain ⟨⟨t595, t596⟩, A30, H⟩ := H
 replace H : (if t595 = 0 then ((spec_l71Spoil.f k s0_0 t596 t589 t590).bind fun bt597 => (some (bt597.1, bt597.2.1, bt597.2.2))) else (some (t589, t590, t596))) = some (r1, r2, r3) := H
 have A3 := Aside0.mk A30
 clear A30
 by_cases c4 : t595 = 0
 ·rw [if_pos c4] at H
  have c4b0 : (t595 == 0) = true := beq_iff_eq.mpr c4
  have c4b1 : (t595 != 0) = false := bne_eq_false_iff_eq.mpr c4
  clear c4
  replace H := Option.bind_eq_some_iff.mp H
  obtain ⟨⟨t597, t598, t601⟩, A50, H⟩ := H
  replace H : (some (t597, t598, t601)) = some (r1, r2, r3) := H
  have A5 := Aside0.mk A50
  clear A50
  simp only [Option.some.injEq, Prod.mk.injEq] at H
  obtain ⟨rfl, rfl, rfl⟩ := H
  go_enter Try.func70, Try.ntmps70
  go_wp2_with (first | ((with_reducible refine gate_dst (N := 2) rfl ?_); refine G.be 2 #[.int .i64 0, .slice none 0 0] 29 ?_; intro gb588 hg w6 hbox hb; have n0_ := Aside0.mk (IsS83.below (cI14) hb); have n1_ := Aside0.mk (KeepBut.trans (G.cK HK.out) (KeepBut.of_below hb g none) (.inl rfl)); have n2_ := Aside0.mk (below_step (cBs14 HB.out) hb); have n3_ := Aside0.mk (hbox); have n4_ := Aside0.mk ((c14_4 : w.heap.size ≤ gb588)); have n5_ := Aside0.mk ((Nat.le_trans HW0.out (c14_4 : w.heap.size ≤ gb588) : w0.heap.size ≤ gb588)); have n6_ := Aside0.mk ((c14_2 : g ≠ gb588)); have n7_ := Aside0.mk ((c14_3 : gb588 ≠ g)); clear HI0 HK HB; revert n0_ n1_ n2_ n3_ n4_ n5_ n6_ n7_; intro HI0 HK HB BK588 GW588 GE588 NB0_588 NB588_0; clear hb hbox hg) | ((with_reducible refine gate_callee (f := 77) rfl ?_); refine goesL_ (some 5) rfl rfl Try.func77 (c14_5) rfl #[.pointer (some ⟨g, 0, none⟩)] rfl (G.ar) ?_; (with_reducible refine (spec_l71Net.calls k g s0_0 s0_1 t589 t590 t593 w0 _ ?side1 ?side2 A2.out).mono ?_); (case side1 => exact cI14); (case side2 => exact cBs14 HB.out); rintro e w7 ⟨v591, rfl, ho0, hi, hb, hk⟩; refine ⟨_, rfl, ?_⟩; have n0_ := Aside0.mk (KeepBut.blk hk (g' := gb588) (o := .cells #[.int .i64 0, .slice none 0 0] 29 (0, 0)) (G.cb BK588.out) NB588_0.out (by simp)); have n1_ := Aside0.mk (Kd.R_lower ho0 (keep_size (w := w) (g := g) (row := none) (G.cK HK.out))); have n2_ := Aside0.mk (KeepBut.trans (G.cK HK.out) hk (.inl rfl)); have n3_ := Aside0.mk (hb); have n4_ := Aside0.mk (hi); clear BK588 HK HB HI0; revert n0_ n1_ n2_ n3_ n4_; intro BK588 HO592 HK HB HI0; (try clear hb); (try clear hb2); (try clear hk); (try clear hi); (try clear ho0)) | ((with_reducible refine gate_dst (N := 3) rfl ?_); refine G.be 3 #[.int .i64 0, .slice none 0 0] 29 ?_; intro gb594 hg w8 hbox hb; have n0_ := Aside0.mk (Kd.R_below (G.cR HO592.out) hb); have n1_ := Aside0.mk (IsS83.below (cI14) hb); have n2_ := Aside0.mk (blk_below (g := gb588) (o := .cells #[.int .i64 0, .slice none 0 0] 29 (0, 0)) (G.cb BK588.out) hb); have n3_ := Aside0.mk (KeepBut.trans (G.cK HK.out) (KeepBut.of_below hb g none) (.inl rfl)); have n4_ := Aside0.mk (below_step (cBs14 HB.out) hb); have n5_ := Aside0.mk (hbox); have n6_ := Aside0.mk ((c14_4 : w.heap.size ≤ gb594)); have n7_ := Aside0.mk ((Nat.le_trans HW0.out (c14_4 : w.heap.size ≤ gb594) : w0.heap.size ≤ gb594)); have n8_ := Aside0.mk ((by rw [hg]; exact Nat.ne_of_lt (blk_lt (g := gb588) (o := .cells #[.int .i64 0, .slice none 0 0] 29 (0, 0)) (G.cb BK588.out)) : gb588 ≠ gb594)); have n9_ := Aside0.mk ((by rw [hg]; exact Nat.ne_of_gt (blk_lt (g := gb588) (o := .cells #[.int .i64 0, .slice none 0 0] 29 (0, 0)) (G.cb BK588.out)) : gb594 ≠ gb588)); have n10_ := Aside0.mk ((by rw [hg]; exact Nat.ne_of_lt (IsS83.lt (show IsS83 w0 _ g s0_0 t593 from cI14)) : g ≠ gb594)); have n11_ := Aside0.mk ((by rw [hg]; exact Nat.ne_of_gt (IsS83.lt (show IsS83 w0 _ g s0_0 t593 from cI14)) : gb594 ≠ g)); clear HO592 HI0 BK588 HK HB; revert n0_ n1_ n2_ n3_ n4_ n5_ n6_ n7_ n8_ n9_ n10_ n11_; intro HO592 HI0 BK588 HK HB BK594 GW594 GE594 NB588_594 NB594_588 NB0_594 NB594_0; clear hb hbox hg; have hnb9 := NB594_588.out; have hnc9 := NB588_594.out; have hnb10 := NB594_0.out; have hnc10 := NB0_594.out; have hcz11_0 : w8.cell? ⟨gb594, 0, none⟩ = some (.int .i64 0) := (blk_cell BK594.out 0).trans rfl; have hcz11_1 : w8.cell? ⟨gb594, 1, none⟩ = some (.slice none 0 0) := (blk_cell BK594.out 1).trans rfl; have hfz11_0 := blk_frozen BK594.out 0; have hfz11_1 := blk_frozen BK594.out 1; obtain ⟨Ao12, co12, eo12⟩ := Kd.R_slice HO592.out; subst eo12) | ((with_reducible refine gate_callee (f := 56) rfl ?_); refine goesL_ (some 7) rfl rfl Try.func56 (c14_5) rfl #[.pointer (some ⟨g, 0, none⟩), .int .i64 12] rfl (G.ar) ?_; (with_reducible refine (spec_l6Rd_pick.calls k g s0_0 t593 12 t595 t596 w0 _ ?side1 ?side2 A3.out).mono ?_); (case side1 => exact cI14); (case side2 => exact cBs14 HB.out); rintro e w13 ⟨rfl, hi, hb, hk⟩; refine ⟨_, rfl, ?_⟩; have n0_ := Aside0.mk (KeepBut.blk hk (g' := gb588) (o := .cells #[.int .i64 0, .slice none 0 0] 29 (0, 0)) (c14_1) NB588_0.out (by simp)); have n1_ := Aside0.mk (Kd.R_mono (Kd.R_keep (IsS83.apart (show IsS83 w0 _ g s0_0 t593 from cI14) (by (with_reducible repeat (first | apply Kd.R_alloc | apply Kd.R_drewN | apply Kd.R_drew)); exact (Kd.R_mono (Kd.R_far (p := ⟨gb594, 1, none⟩) (Kd.R_far (p := ⟨gb594, 0, none⟩) (Kd.R_types HO592.out BK594.out (by decide)) (fun _ hk => hk.2) (.int .i64 t589)) (fun _ hk => hk.2) (.slice Ao12 t590.length co12)) (fun _ h_ => h_.1))) (by decide)) hk (fun _ h => h.2)) (fun _ h => h.1)); have n2_ := Aside0.mk (KeepBut.blk hk (g' := gb594) (o := .cells #[.int .i64 t589, .slice Ao12 t590.length co12] 29 (0, 0)) (c14_0) NB594_0.out (by simp)); have n3_ := Aside0.mk (KeepBut.trans (G.cK HK.out) hk (.inl rfl)); have n4_ := Aside0.mk (hb); have n5_ := Aside0.mk (hi); clear BK588 HO592 BK594 HK HB HI0; revert n0_ n1_ n2_ n3_ n4_ n5_; intro BK588 HO592 BK594 HK HB HI0; (try clear hb); (try clear hb2); (try clear hk); (try clear hi); have hcz14_0 : w13.cell? ⟨gb594, 0, none⟩ = some (.int .i64 t589) := (blk_cell BK594.out 0).trans rfl; have hcz14_1 : w13.cell? ⟨gb594, 1, none⟩ = some (.slice Ao12 t590.length co12) := (blk_cell BK594.out 1).trans rfl; have hfz14_0 := blk_frozen BK594.out 0; have hfz14_1 := blk_frozen BK594.out 1) | ((with_reducible refine gate_callee (f := 78) rfl ?_); refine goesL_ (some 11) rfl rfl Try.func78 (c14_5) rfl #[.pointer (some ⟨g, 0, none⟩), .agg #[.int .i64 t589, .slice Ao12 t590.length co12]] rfl (G.ar) ?_; (with_reducible refine (spec_l71Spoil.calls k g s0_0 t596 t589 _ _ t590 t597 t598 t601 w0 _ ?side1 ?side2 ?side3 ?side4 A5.out).mono ?_); (case side1 => exact cI14); (case side2 => exact cBs14 HB.out); (case side3 => exact Kd.C_foot_own (IsS83.apart (show IsS83 w0 _ g s0_0 t596 from cI14) (G.cR HO592.out) (by decide)) (fun _ h_ => h_.2)); (case side4 => exact (Kd.R_reads' HO592.out).2.1); rintro e w15 ⟨v599, rfl, ho0, hi, hb, hk⟩; refine ⟨_, rfl, ?_⟩; have n0_ := Aside0.mk (KeepBut.blk hk (g' := gb588) (o := .cells #[.int .i64 0, .slice none 0 0] 29 (0, 0)) (G.cb BK588.out) NB588_0.out (by simp)); have n1_ := Aside0.mk (Kd.R_mono (Kd.R_told (Kd.R_oldK (IsS83.apart (show IsS83 w0 _ g s0_0 t596 from cI14) (G.cR HO592.out) (by decide)) hk) (Kd.R_base ho0)) (fun _ h_ => h_.1)); have n2_ := Aside0.mk (KeepBut.blk hk (g' := gb594) (o := .cells #[.int .i64 t589, .slice Ao12 t590.length co12] 29 (0, 0)) (G.cb BK594.out) NB594_0.out (by simp)); have n3_ := Aside0.mk (Kd.R_lower (Kd.R_new' ho0 (Kd.R_lt (G.cR HO592.out))) (keep_size (w := w) (g := g) (row := none) (G.cK HK.out))); have n4_ := Aside0.mk (KeepBut.trans (G.cK HK.out) hk (.inl rfl)); have n5_ := Aside0.mk (hb); have n6_ := Aside0.mk (hi); clear BK588 HO592 BK594 HK HB HI0; revert n0_ n1_ n2_ n3_ n4_ n5_ n6_; intro BK588 HO592 BK594 HO600 HK HB HI0; (try clear hb); (try clear hb2); (try clear hk); (try clear hi); (try clear ho0); have hnb16 := NB588_0.out; have hnc16 := NB0_588.out; have hcz17_0 : w15.cell? ⟨gb588, 0, none⟩ = some (.int .i64 0) := (blk_cell BK588.out 0).trans rfl; have hcz17_1 : w15.cell? ⟨gb588, 1, none⟩ = some (.slice none 0 0) := (blk_cell BK588.out 1).trans rfl; have hfz17_0 := blk_frozen BK588.out 0; have hfz17_1 := blk_frozen BK588.out 1; obtain ⟨Ao18, co18, eo18⟩ := Kd.R_slice HO600.out; subst eo18))
  refine bodyPost_ret (results_cell_row rfl _ _ gb588 29 #[.int .i64 t597, .slice Ao18 t598.length co18] (0, 0) _ rfl (by (with_reducible repeat (first | refine blk_drewN ?_ _ | refine blk_drew ?_ | refine blk_alloc ?_ _)); refine blk_put (cs := #[.int .i64 t597, .slice none 0 0]) ?_ 1 _ rfl; (with_reducible repeat (first | refine blk_drewN ?_ _ | refine blk_drew ?_ | refine blk_alloc ?_ _)); refine blk_put (cs := #[.int .i64 0, .slice none 0 0]) ?_ 0 _ rfl; (with_reducible repeat (first | refine blk_drewN ?_ _ | refine blk_drew ?_ | refine blk_alloc ?_ _)); exact BK588.out) Try.underlying29 rfl (c14_5)) rfl ?_
  exact ⟨_, by first | rfl | (simp [errW_none, errW_some] <;> rfl) | (simp [*, errW_none, errW_some] <;> rfl), by (with_reducible repeat (first | apply Kd.R_alloc | apply Kd.R_drewN | apply Kd.R_drew)); exact Kd.R_mono (Kd.R_far (p := ⟨gb588, 1, none⟩) (Kd.R_far (p := ⟨gb588, 0, none⟩) (Kd.R_types HO600.out BK588.out (by decide)) (fun _ hk => hk.2) (.int .i64 t597)) (fun _ hk => hk.2) (.slice Ao18 t598.length co18)) (fun _ hk => trivial), cI14, cBs14 HB.out, G.cK HK.out⟩
 ·rw [if_neg c4] at H
  have c4b0 : (t595 == 0) = false := beq_eq_false_iff_ne.mpr c4
  have c4b1 : (t595 != 0) = true := bne_iff_ne.mpr c4
  simp only [Option.some.injEq, Prod.mk.injEq] at H
  obtain ⟨rfl, rfl, rfl⟩ := H
  go_enter Try.func70, Try.ntmps70
  go_wp2_with (first | ((with_reducible refine gate_dst (N := 2) rfl ?_); refine G.be 2 #[.int .i64 0, .slice none 0 0] 29 ?_; intro gb588 hg w19 hbox hb; have n0_ := Aside0.mk (IsS83.below (cI14) hb); have n1_ := Aside0.mk (KeepBut.trans (G.cK HK.out) (KeepBut.of_below hb g none) (.inl rfl)); have n2_ := Aside0.mk (below_step (cBs14 HB.out) hb); have n3_ := Aside0.mk (hbox); have n4_ := Aside0.mk ((c14_4 : w.heap.size ≤ gb588)); have n5_ := Aside0.mk ((Nat.le_trans HW0.out (c14_4 : w.heap.size ≤ gb588) : w0.heap.size ≤ gb588)); have n6_ := Aside0.mk ((c14_2 : g ≠ gb588)); have n7_ := Aside0.mk ((c14_3 : gb588 ≠ g)); clear HI0 HK HB; revert n0_ n1_ n2_ n3_ n4_ n5_ n6_ n7_; intro HI0 HK HB BK588 GW588 GE588 NB0_588 NB588_0; clear hb hbox hg) | ((with_reducible refine gate_callee (f := 77) rfl ?_); refine goesL_ (some 5) rfl rfl Try.func77 (c14_5) rfl #[.pointer (some ⟨g, 0, none⟩)] rfl (G.ar) ?_; (with_reducible refine (spec_l71Net.calls k g s0_0 s0_1 t589 t590 t593 w0 _ ?side1 ?side2 A2.out).mono ?_); (case side1 => exact cI14); (case side2 => exact cBs14 HB.out); rintro e w20 ⟨v591, rfl, ho0, hi, hb, hk⟩; refine ⟨_, rfl, ?_⟩; have n0_ := Aside0.mk (KeepBut.blk hk (g' := gb588) (o := .cells #[.int .i64 0, .slice none 0 0] 29 (0, 0)) (G.cb BK588.out) NB588_0.out (by simp)); have n1_ := Aside0.mk (Kd.R_lower ho0 (keep_size (w := w) (g := g) (row := none) (G.cK HK.out))); have n2_ := Aside0.mk (KeepBut.trans (G.cK HK.out) hk (.inl rfl)); have n3_ := Aside0.mk (hb); have n4_ := Aside0.mk (hi); clear BK588 HK HB HI0; revert n0_ n1_ n2_ n3_ n4_; intro BK588 HO592 HK HB HI0; (try clear hb); (try clear hb2); (try clear hk); (try clear hi); (try clear ho0)) | ((with_reducible refine gate_dst (N := 3) rfl ?_); refine G.be 3 #[.int .i64 0, .slice none 0 0] 29 ?_; intro gb594 hg w21 hbox hb; have n0_ := Aside0.mk (Kd.R_below (G.cR HO592.out) hb); have n1_ := Aside0.mk (IsS83.below (cI14) hb); have n2_ := Aside0.mk (blk_below (g := gb588) (o := .cells #[.int .i64 0, .slice none 0 0] 29 (0, 0)) (G.cb BK588.out) hb); have n3_ := Aside0.mk (KeepBut.trans (G.cK HK.out) (KeepBut.of_below hb g none) (.inl rfl)); have n4_ := Aside0.mk (below_step (cBs14 HB.out) hb); have n5_ := Aside0.mk (hbox); have n6_ := Aside0.mk ((c14_4 : w.heap.size ≤ gb594)); have n7_ := Aside0.mk ((Nat.le_trans HW0.out (c14_4 : w.heap.size ≤ gb594) : w0.heap.size ≤ gb594)); have n8_ := Aside0.mk ((by rw [hg]; exact Nat.ne_of_lt (blk_lt (g := gb588) (o := .cells #[.int .i64 0, .slice none 0 0] 29 (0, 0)) (G.cb BK588.out)) : gb588 ≠ gb594)); have n9_ := Aside0.mk ((by rw [hg]; exact Nat.ne_of_gt (blk_lt (g := gb588) (o := .cells #[.int .i64 0, .slice none 0 0] 29 (0, 0)) (G.cb BK588.out)) : gb594 ≠ gb588)); have n10_ := Aside0.mk ((by rw [hg]; exact Nat.ne_of_lt (IsS83.lt (show IsS83 w0 _ g s0_0 t593 from cI14)) : g ≠ gb594)); have n11_ := Aside0.mk ((by rw [hg]; exact Nat.ne_of_gt (IsS83.lt (show IsS83 w0 _ g s0_0 t593 from cI14)) : gb594 ≠ g)); clear HO592 HI0 BK588 HK HB; revert n0_ n1_ n2_ n3_ n4_ n5_ n6_ n7_ n8_ n9_ n10_ n11_; intro HO592 HI0 BK588 HK HB BK594 GW594 GE594 NB588_594 NB594_588 NB0_594 NB594_0; clear hb hbox hg; have hnb22 := NB594_588.out; have hnc22 := NB588_594.out; have hnb23 := NB594_0.out; have hnc23 := NB0_594.out; have hcz24_0 : w21.cell? ⟨gb594, 0, none⟩ = some (.int .i64 0) := (blk_cell BK594.out 0).trans rfl; have hcz24_1 : w21.cell? ⟨gb594, 1, none⟩ = some (.slice none 0 0) := (blk_cell BK594.out 1).trans rfl; have hfz24_0 := blk_frozen BK594.out 0; have hfz24_1 := blk_frozen BK594.out 1; obtain ⟨Ao25, co25, eo25⟩ := Kd.R_slice HO592.out; subst eo25) | ((with_reducible refine gate_callee (f := 56) rfl ?_); refine goesL_ (some 7) rfl rfl Try.func56 (c14_5) rfl #[.pointer (some ⟨g, 0, none⟩), .int .i64 12] rfl (G.ar) ?_; (with_reducible refine (spec_l6Rd_pick.calls k g s0_0 t593 12 t595 t596 w0 _ ?side1 ?side2 A3.out).mono ?_); (case side1 => exact cI14); (case side2 => exact cBs14 HB.out); rintro e w26 ⟨rfl, hi, hb, hk⟩; refine ⟨_, rfl, ?_⟩; have n0_ := Aside0.mk (KeepBut.blk hk (g' := gb588) (o := .cells #[.int .i64 0, .slice none 0 0] 29 (0, 0)) (c14_1) NB588_0.out (by simp)); have n1_ := Aside0.mk (Kd.R_mono (Kd.R_keep (IsS83.apart (show IsS83 w0 _ g s0_0 t593 from cI14) (by (with_reducible repeat (first | apply Kd.R_alloc | apply Kd.R_drewN | apply Kd.R_drew)); exact (Kd.R_mono (Kd.R_far (p := ⟨gb594, 1, none⟩) (Kd.R_far (p := ⟨gb594, 0, none⟩) (Kd.R_types HO592.out BK594.out (by decide)) (fun _ hk => hk.2) (.int .i64 t589)) (fun _ hk => hk.2) (.slice Ao25 t590.length co25)) (fun _ h_ => h_.1))) (by decide)) hk (fun _ h => h.2)) (fun _ h => h.1)); have n2_ := Aside0.mk (KeepBut.blk hk (g' := gb594) (o := .cells #[.int .i64 t589, .slice Ao25 t590.length co25] 29 (0, 0)) (c14_0) NB594_0.out (by simp)); have n3_ := Aside0.mk (KeepBut.trans (G.cK HK.out) hk (.inl rfl)); have n4_ := Aside0.mk (hb); have n5_ := Aside0.mk (hi); clear BK588 HO592 BK594 HK HB HI0; revert n0_ n1_ n2_ n3_ n4_ n5_; intro BK588 HO592 BK594 HK HB HI0; (try clear hb); (try clear hb2); (try clear hk); (try clear hi); have hcz27_0 : w26.cell? ⟨gb594, 0, none⟩ = some (.int .i64 t589) := (blk_cell BK594.out 0).trans rfl; have hcz27_1 : w26.cell? ⟨gb594, 1, none⟩ = some (.slice Ao25 t590.length co25) := (blk_cell BK594.out 1).trans rfl; have hfz27_0 := blk_frozen BK594.out 0; have hfz27_1 := blk_frozen BK594.out 1; have hnb28 := NB588_0.out; have hnc28 := NB0_588.out; have hcz29_0 : w26.cell? ⟨gb588, 0, none⟩ = some (.int .i64 0) := (blk_cell BK588.out 0).trans rfl; have hcz29_1 : w26.cell? ⟨gb588, 1, none⟩ = some (.slice none 0 0) := (blk_cell BK588.out 1).trans rfl; have hfz29_0 := blk_frozen BK588.out 0; have hfz29_1 := blk_frozen BK588.out 1))
  refine bodyPost_ret (results_cell_row rfl _ _ gb588 29 #[.int .i64 t589, .slice Ao25 t590.length co25] (0, 0) _ rfl (by (with_reducible repeat (first | refine blk_drewN ?_ _ | refine blk_drew ?_ | refine blk_alloc ?_ _)); refine blk_put (cs := #[.int .i64 t589, .slice none 0 0]) ?_ 1 _ rfl; (with_reducible repeat (first | refine blk_drewN ?_ _ | refine blk_drew ?_ | refine blk_alloc ?_ _)); refine blk_put (cs := #[.int .i64 0, .slice none 0 0]) ?_ 0 _ rfl; (with_reducible repeat (first | refine blk_drewN ?_ _ | refine blk_drew ?_ | refine blk_alloc ?_ _)); exact BK588.out) Try.underlying29 rfl (c14_5)) rfl ?_
  exact ⟨_, by first | rfl | (simp [errW_none, errW_some] <;> rfl) | (simp [*, errW_none, errW_some] <;> rfl), by (with_reducible repeat (first | apply Kd.R_alloc | apply Kd.R_drewN | apply Kd.R_drew)); exact Kd.R_mono (Kd.R_far (p := ⟨gb588, 1, none⟩) (Kd.R_far (p := ⟨gb588, 0, none⟩) (Kd.R_types HO592.out BK588.out (by decide)) (fun _ hk => hk.2) (.int .i64 t589)) (fun _ hk => hk.2) (.slice Ao25 t590.length co25)) (fun _ hk => trivial), cI14, cBs14 HB.out, G.cK HK.out⟩

/-! ### spec_l71Knot: function 71 -/
def spec_l71Knot.j0 : Nat → Bool → List Int → Int → Int → List (S63) → Option (Int × Int)
 | 0, _, _, _, _, _ => none
 | k + 1, x12, x1000, x1001, x603000, x603001 => if x12 = true then ((some (([(-1), x603000, 3] : List Int) : List Int)).bind fun y605 => ((spec_l6Rd_pick.f k x1000 x1001 3).bind fun bt608 => (if 0 ≤ bt608.1 then (if bt608.1 < (y605.length : Int) then (some (rd y605 bt608.1, bt608.2)) else (none)) else (none)))) else ((spec_l6Rd_pick.f k x1000 x1001 x603000).bind fun bt611 => (some (bt611.1, bt611.2)))
def spec_l71Knot.f (k : Nat) (s0_0 : List Int) (s0_1 : Int) (a1_0 : Int) (l1_1 : List (S63)) : Option (Int × Int) := if a1_0 < 1 then (spec_l71Knot.j0 k true s0_0 s0_1 a1_0 l1_1) else ((spec_l6Rd_pick.f k s0_0 s0_1 24).bind fun bt603 => (spec_l71Knot.j0 k (bt603.1 == 0) s0_0 bt603.2 a1_0 l1_1))
theorem spec_l71Knot.mono_l : ∀ k, (∀ y0 y1 y2 y3 y4, LeO (spec_l71Knot.j0 k y0 y1 y2 y3 y4) (spec_l71Knot.j0 (k + 1) y0 y1 y2 y3 y4))
 | 0 => fun _ _ _ _ _ r h => by simp [spec_l71Knot.j0] at h
 | k + 1 => by
  have ih0 := spec_l71Knot.mono_l k
  ·intro y0 y1 y2 y3 y4
   unfold spec_l71Knot.j0
   repeat' first
   | (with_reducible exact ih0 _ _ _ _ _)
   | (with_reducible exact spec_l6Rd_pick.mono _ _ _ _)
   | (with_reducible exact LeO.refl _)
   | (with_reducible exact LeO.none _)
   | (with_reducible refine LeO.ite ?_ ?_)
   | (with_reducible refine LeO.bind ?_ (fun _ => ?_))
   | exact ih0 _ _ _ _ _
   | exact spec_l6Rd_pick.mono _ _ _ _
   | exact LeO.none _
   | refine LeO.ite ?_ ?_
   | refine LeO.bind ?_ (fun _ => ?_)
theorem spec_l71Knot.mono : ∀ a0 a1 a2 a3 k, LeO (spec_l71Knot.f k a0 a1 a2 a3) (spec_l71Knot.f (k + 1) a0 a1 a2 a3) := by
 intro a0 a1 a2 a3 k
 have ih0 := spec_l71Knot.mono_l k
 unfold spec_l71Knot.f
 repeat' first
   | (with_reducible exact ih0 _ _ _ _ _)
   | (with_reducible exact spec_l6Rd_pick.mono _ _ _ _)
   | (with_reducible exact LeO.refl _)
   | (with_reducible exact LeO.none _)
   | (with_reducible refine LeO.ite ?_ ?_)
   | (with_reducible refine LeO.bind ?_ (fun _ => ?_))
   | exact ih0 _ _ _ _ _
   | exact spec_l6Rd_pick.mono _ _ _ _
   | exact LeO.none _
   | refine LeO.ite ?_ ?_
   | refine LeO.bind ?_ (fun _ => ?_)
def spec_l71Knot.T2 : Bool × List (List Nat × List Nat) := (true, [([], []), ([0], [0]), ([1], [1]), ([], []), ([3], [3]), ([2, 4], [2, 4]), ([5], [5]), ([6, 4, 0, 1, 2, 3, 4, 5, 6], [6])])
def spec_l71Knot.B2 : List Nat := [0, 1, 3, 0, 8, 31, 63, 127]
theorem spec_l71Knot.tab2 : rtab .any (opsOf Try.f71 2) = spec_l71Knot.T2 := by kernel_rfl
theorem spec_l71Knot.bits2 : waitsOk spec_l71Knot.T2.2 spec_l71Knot.B2 = true := by kernel_rfl
set_option maxHeartbeats 8000000 in
set_option maxRecDepth 100000 in
theorem spec_l71Knot.calls (k : Nat) (g : Nat) (s0_0 : List Int) (s0_1 : Int) (a1_0 : Int) (A1_1 : Option Addr) (c1_1 : Nat) (l1_1 : List (S63)) (r1 : Int) (r2 : Int) (w0 w : World) (hI : IsS83 w0 w g s0_0 s0_1) (hB : Below w0.heap.size w0 w) (hr1_1 : ∀ W_, KeepBut w W_ g none → Kd.C k63 W_ A1_1 l1_1.length l1_1) (hc1_1 : l1_1.length ≤ c1_1) (h : spec_l71Knot.f k s0_0 s0_1 a1_0 l1_1 = some (r1, r2)) :
  Calls Try.prog 71 #[.pointer (some ⟨g, 0, none⟩), .agg #[.int .i64 a1_0, .slice A1_1 l1_1.length c1_1]] w fun e w' => e = .returned (.int .i64 r1) ∧ IsS83 w0 w' g s0_0 r2 ∧ Below w0.heap.size w0 w' ∧ KeepBut w w' g none := by
 have hu29 := Try.underlying29
 have HR1_1 := Aside0.mk hr1_1
 have HC1_1 := Aside0.mk hc1_1
 clear hr1_1 hc1_1
 have HI0 := Aside0.mk hI
 have HK := Aside0.mk (KeepBut.refl w g none)
 have HL := Aside0.mk hB.size
 clear hI
 have HW0 := Aside0.mk hB.size
 have HB := Aside0.mk hB
 clear hB
 have H : (if a1_0 < 1 then (spec_l71Knot.j0 k true s0_0 s0_1 a1_0 l1_1) else ((spec_l6Rd_pick.f k s0_0 s0_1 24).bind fun bt603 => (spec_l71Knot.j0 k (bt603.1 == 0) s0_0 bt603.2 a1_0 l1_1))) = some (r1, r2) := h
 clear h
 have HC3 := Aside0.mk H
 clear H
 go_enter Try.func71, Try.ntmps71
 go_upto_region 1 with (first | ((with_reducible refine gate_dst (N := 3) rfl ?_); refine G.be 3 #[.int .i64 a1_0, .slice A1_1 l1_1.length c1_1] 29 ?_; intro gb602 hg w4 hbox hb; have n0_ := Aside0.mk (IsS83.below (cI14) hb); have n1_ := Aside0.mk (KeepBut.trans (G.cK HK.out) (KeepBut.of_below hb g none) (.inl rfl)); have n2_ := Aside0.mk (below_step (cBs14 HB.out) hb); have n3_ := Aside0.mk (hbox); have n4_ := Aside0.mk ((c14_4 : w.heap.size ≤ gb602)); have n5_ := Aside0.mk ((Nat.le_trans HW0.out (c14_4 : w.heap.size ≤ gb602) : w0.heap.size ≤ gb602)); have n6_ := Aside0.mk ((c14_2 : g ≠ gb602)); have n7_ := Aside0.mk ((c14_3 : gb602 ≠ g)); clear HI0 HK HB; revert n0_ n1_ n2_ n3_ n4_ n5_ n6_ n7_; intro HI0 HK HB BK602 GW602 GE602 NB0_602 NB602_0; clear hb hbox hg))
 (try simp only [Act.put, List.setIfInBounds_toArray, List.set_cons_zero, List.set_cons_succ])
 go_cut [12] (fun v12 wc => ∃ (kq : Nat) (x12_2 : Bool) (x1001_2 : Int), v12 = .bool x12_2 ∧ Aside0 (spec_l71Knot.j0 kq x12_2 s0_0 x1001_2 a1_0 l1_1 = some (r1, r2)) ∧ Aside0 (kq ≤ k) ∧ Aside0 (wc.heap[gb602]? = some (.cells #[.int .i64 a1_0, (.slice A1_1 l1_1.length c1_1)] 29 (0, 0))) ∧ Aside0 (IsS83 w0 wc g s0_0 x1001_2) ∧ Aside0 (KeepBut w wc g none) ∧ Aside0 (Below w0.heap.size w0 wc))
 case first =>
  have H := HC3.out
  clear HC3
  by_cases c5 : a1_0 < 1
  ·rw [if_pos c5] at H
   have c5b0 : decide (a1_0 < 1) = true := decide_eq_true c5
   clear c5
   (first | rw [c5b0] | (simp only [i64_w, i32_w]; rw [c5b0]) | skip)
   have H' := Aside0.mk H
   clear H
   have hnb6 := NB602_0.out
   have hnc6 := NB0_602.out
   have hcz7_0 : w4.cell? ⟨gb602, 0, none⟩ = some (.int .i64 a1_0) := (blk_cell BK602.out 0).trans rfl
   have hcz7_1 : w4.cell? ⟨gb602, 1, none⟩ = some (.slice A1_1 l1_1.length c1_1) := (blk_cell BK602.out 1).trans rfl
   have hfz7_0 := blk_frozen BK602.out 0
   have hfz7_1 := blk_frozen BK602.out 1
   go_wp2
   go_meet
   case rel => exact ⟨_, (true), (s0_1), (by first | rfl | (simp; done) | (simp [*]; done)), H', ⟨by first | omega | exact Nat.le_refl _⟩, ⟨G.cb BK602.out⟩, ⟨cI14⟩, ⟨G.cK HK.out⟩, ⟨cBs14 HB.out⟩⟩
  ·rw [if_neg c5] at H
   have c5b0 : decide (a1_0 < 1) = false := decide_eq_false c5
   clear c5
   (first | rw [c5b0] | (simp only [i64_w, i32_w]; rw [c5b0]) | skip)
   replace H := Option.bind_eq_some_iff.mp H
   obtain ⟨⟨t603, t604⟩, A80, H⟩ := H
   replace H : (spec_l71Knot.j0 k (t603 == 0) s0_0 t604 a1_0 l1_1) = some (r1, r2) := H
   have A8 := Aside0.mk A80
   clear A80
   have H' := Aside0.mk H
   clear H
   have hnb9 := NB602_0.out
   have hnc9 := NB0_602.out
   have hcz10_0 : w4.cell? ⟨gb602, 0, none⟩ = some (.int .i64 a1_0) := (blk_cell BK602.out 0).trans rfl
   have hcz10_1 : w4.cell? ⟨gb602, 1, none⟩ = some (.slice A1_1 l1_1.length c1_1) := (blk_cell BK602.out 1).trans rfl
   have hfz10_0 := blk_frozen BK602.out 0
   have hfz10_1 := blk_frozen BK602.out 1
   go_wp2_with (first | (go_at_call 56; (with_reducible refine (spec_l6Rd_pick.calls k g s0_0 s0_1 24 t603 t604 w0 _ ?side1 ?side2 A8.out).mono ?_); (case side1 => exact cI14); (case side2 => exact cBs14 HB.out); rintro e w11 ⟨rfl, hi, hb, hk⟩; have n0_ := Aside0.mk (KeepBut.blk hk (g' := gb602) (o := .cells #[.int .i64 a1_0, .slice A1_1 l1_1.length c1_1] 29 (0, 0)) (G.cb BK602.out) NB602_0.out (by simp)); have n1_ := Aside0.mk (KeepBut.trans (G.cK HK.out) hk (.inl rfl)); have n2_ := Aside0.mk (hb); have n3_ := Aside0.mk (hi); clear BK602 HK HB HI0; revert n0_ n1_ n2_ n3_; intro BK602 HK HB HI0; (try clear hb); (try clear hb2); (try clear hk); (try clear hi)))
   go_meet
   case rel => exact ⟨_, ((t603 == 0)), (t604), (by first | rfl | (simp; done) | (simp [*]; done)), H', ⟨by first | omega | exact Nat.le_refl _⟩, ⟨G.cb BK602.out⟩, ⟨cI14⟩, ⟨G.cK HK.out⟩, ⟨cBs14 HB.out⟩⟩
 case rest =>
  clear HC3
  (try clear c1); (try clear p2); (try clear c5); (try clear c5b0); (try clear c6); (try clear c7); (try clear c9); (try clear hcz10_0); (try clear hcz10_1); (try clear hcz7_0); (try clear hcz7_1); (try clear hfz10_0); (try clear hfz10_1); (try clear hfz7_0); (try clear hfz7_1)
  obtain ⟨kq, x12_2, x1001_2, rfl, HA, HJ2, BK602, HI0, HK, HB⟩ := hcut
  cases kq with
  | zero => exact absurd HA.out (by simp [spec_l71Knot.j0])
  | succ kj2 =>
   have H := HA.out
   clear HA
   simp only [spec_l71Knot.j0] at H
   by_cases c12 : x12_2 = true
   ·subst c12
    have H1 : ((some (([(-1), a1_0, 3] : List Int) : List Int)).bind fun y605 => ((spec_l6Rd_pick.f kj2 s0_0 x1001_2 3).bind fun bt608 => (if 0 ≤ bt608.1 then (if bt608.1 < (y605.length : Int) then (some (rd y605 bt608.1, bt608.2)) else (none)) else (none)))) = some (r1, r2) := by rw [if_pos rfl] at H; exact H
    clear H
    have H := H1
    clear H1
    obtain ⟨y605, hy605⟩ : ∃ y_ : List Int, y_ = (([(-1), a1_0, 3] : List Int)) := ⟨_, rfl⟩
    replace H : ((spec_l6Rd_pick.f kj2 s0_0 x1001_2 3).bind fun bt608 => (if 0 ≤ bt608.1 then (if bt608.1 < (y605.length : Int) then (some (rd y605 bt608.1, bt608.2)) else (none)) else (none))) = some (r1, r2) := by first | (rw [hy605]; with_reducible exact H) | (have H2_ := (Option.bind_some _ _).symm.trans H; rw [hy605]; with_reducible exact H2_) | (have H2_ := (Option.bind_some _ _).symm.trans H; with_reducible exact H2_) | with_reducible exact H | (rw [hy605]; exact H) | exact H
    have Ny605 := Aside0.mk hy605
    clear hy605
    replace H := Option.bind_eq_some_iff.mp H
    obtain ⟨⟨t608, t609⟩, A130, H⟩ := H
    replace H : (if 0 ≤ t608 then (if t608 < (y605.length : Int) then (some (rd y605 t608, t609)) else (none)) else (none)) = some (r1, r2) := H
    have A13 := Aside0.mk A130
    clear A130
    by_cases c14 : 0 ≤ t608
    ·rw [if_pos c14] at H
     have c14b0 : decide (0 ≤ t608) = true := decide_eq_true c14
     clear c14
     by_cases c15 : t608 < (y605.length : Int)
     ·rw [if_pos c15] at H
      have c15b0 : decide (t608 < (y605.length : Int)) = true := decide_eq_true c15
      clear c15
      simp only [Option.some.injEq, Prod.mk.injEq] at H
      obtain ⟨rfl, rfl⟩ := H
      try go_wp2
      have pi610 : (0 ≤ (t608 : Int)) = True := eq_true (of_decide_eq_true (G.asm))
      have qi610 : (t608 < (y605.length : Int)) = True := eq_true (of_decide_eq_true (G.asm))
      have n0_ := Aside0.mk (blk_drew BK602.out)
      have n1_ := Aside0.mk (IsS83.drew HI0.out)
      have n2_ := Aside0.mk (keep_drew HK.out)
      have n3_ := Aside0.mk (below_drew1 HB.out)
      clear BK602 HI0 HK HB
      revert n0_ n1_ n2_ n3_
      intro BK602 HI0 HK HB
      refine start_ (n := 8) (S := fun w' => True) (ds := []) (G.fl 8 0) (c14_5) rfl (c14_5) trivial (fun hHeld => ?_); refine with_tabW spec_l71Knot.tab2 spec_l71Knot.bits2 (fun HT_ HW_ => ?_)
      generalize wc.drew = w16 at BK602 HI0 HK HB hHeld ⊢
      refine G.pu 0 (some 13) (G.fl 8 1) ?_
      refine G.pu 3 (some 16) (G.fl 8 9) ?_
      refine inv_at [1, 2, 4, 5, 6, 7] (fun a0_ b a w' => ∃ (v606 : Value) (adz_v606 : Addr) (m5_ : Value), a = putSel a0_ b [(1, 14, .int .i64 a1_0), (2, 15, v606), (4, 17, .int .i64 t608), (5, 18, m5_), (6, 19, .int .i64 (rd y605 t608)), (7, 4, .int .i64 (rd y605 t608))] ∧ (w'.heap[gb602]? = some (.cells #[.int .i64 a1_0, .slice A1_1 l1_1.length c1_1] 29 (0, 0))) ∧ (b 4 = false → IsS83 w0 w' g s0_0 x1001_2) ∧ (KeepBut w w' g none) ∧ (Below w0.heap.size w0 w') ∧ (b 2 = true → Kd.R (Kd.int .i64) 3 w' w.heap.size (fun _ => True) v606 y605) ∧ (b 2 = true → ∃ c_, (v606 : Value) = .slice (some adz_v606) y605.length c_) ∧ (b 4 = true → IsS83 w0 w' g s0_0 t609) ∧ (b 5 = true → (m5_ : Value) = .pointer (some (adz_v606.add (t608).toNat)))) HT_.out HW_.out (c14_5) (c14_5) ?_ ?_ ?_
      ·exact ⟨.bool false, ⟨0, 0, none⟩, .bool false, by simp only [putSel, Bool.false_eq_true, if_false], BK602.out, fun _ => HI0.out, HK.out, HB.out, fun h_ => absurd h_ (by decide), fun h_ => absurd h_ (by decide), fun h_ => absurd h_ (by decide), fun h_ => absurd h_ (by decide)⟩
      ·skip
       clear BK602 HB HI0 HK
       refine steps_cons ?_ ?_
       ·rintro b a w' ⟨v606, adz_v606, m5_, ha, Q_BK602, Q_HI0, Q_HK, Q_HB, Q_HO607, Q_HA_HO607, Q_HI0_e4, Q_X5_⟩ hb_ hon hoff
        refine ⟨_, rfl, fun K hK => ?_⟩
        have e13 : a.tmps[13]? = some (.pointer (some ⟨gb602, 0, none⟩)) := by rw [ha]; exact (putSel_off rfl).trans rfl
        replace ha := Aside0.mk ha
        have BK602 := Aside0.mk Q_BK602
        have HK := Aside0.mk Q_HK
        have HB := Aside0.mk Q_HB
        have hc0_ : w'.cell? ⟨gb602, 0, none⟩ = some (.int .i64 a1_0) := (blk_cell BK602.out 0).trans rfl
        have hc1_ : w'.cell? ⟨gb602, 1, none⟩ = some (.slice A1_1 l1_1.length c1_1) := (blk_cell BK602.out 1).trans rfl
        refine value_ (w1 := w') (v := .int .i64 a1_0) (by rfl) rfl ?_ ?_
        ·go_simp
         (try simp only [i64_w])
         try rfl
        refine hK.out _ _ ⟨v606, adz_v606, m5_, (by rw [ha.out]; exact putSel_upk 0 hb_ rfl rfl rfl), Q_BK602, Q_HI0, Q_HK, Q_HB, fun h0_ => absurd ((hoff 2 (c14_5)).symm.trans h0_) (by decide), fun h0_ => absurd ((hoff 2 (c14_5)).symm.trans h0_) (by decide), Q_HI0_e4, fun h0_ => absurd ((hoff 5 (c14_5)).symm.trans h0_) (by decide)⟩
       refine steps_cons ?_ ?_
       ·rintro b a w' ⟨v606, adz_v606, m5_, ha, Q_BK602, Q_HI0, Q_HK, Q_HB, Q_HO607, Q_HA_HO607, Q_HI0_e4, Q_X5_⟩ hb_ hon hoff
        refine ⟨_, rfl, fun K hK => ?_⟩
        have e14 : a.tmps[14]? = some (.int .i64 a1_0) := by rw [ha]; exact putSel_on (e := (1, 14, .int .i64 a1_0)) 0 rfl rfl (hon 1 (c14_5)) rfl
        replace ha := Aside0.mk ha
        have BK602 := Aside0.mk Q_BK602
        have HK := Aside0.mk Q_HK
        have HB := Aside0.mk Q_HB
        refine Kd.R_lit_step (Kd.int .i64) _ 3 ?hg (N := 15) ?hd (xs := ([(-1), a1_0, 3] : List Int)) (inner := [.int .i64 (-1), .int .i64 a1_0, .int .i64 3]) (ok := fun _ => True) (okp := fun _ => True) ?hr ?hp (fun _ hk => hk) trivial (Below.refl _ _) (Nat.le_refl _) (by simp) ?_; (case hd => rfl); (case hg => rfl); (case hr => first | (go_simp; done) | (go_simp; rfl)); (case hp => exact (Reps.one (show Kd.M (Kd.int .i64) _ _ _ (-1) [.int .i64 (-1)] from rfl) (Reps.one (show Kd.M (Kd.int .i64) _ _ _ a1_0 [.int .i64 a1_0] from rfl) (Reps.one (show Kd.M (Kd.int .i64) _ _ _ 3 [.int .i64 3] from rfl) (Reps.none _ _)))))
        intro v606 w17 ho18 hb hg_ hnew_
        clear hg_ hnew_
        (first | rw [← Ny605.out] at ho18 | (simp only [Int.reduceToNat] at ho18; rw [← Ny605.out] at ho18))
        have n0_ := Aside0.mk (Kd.R_lower ho18 (keep_size (w := w) (g := g) (row := none) (G.cK HK.out)))
        have n1_ := Aside0.mk (blk_below (g := gb602) (o := .cells #[.int .i64 a1_0, .slice A1_1 l1_1.length c1_1] 29 (0, 0)) (G.cb BK602.out) hb)
        have n3_ := Aside0.mk (KeepBut.trans (G.cK HK.out) (KeepBut.of_below hb g none) (.inl rfl))
        have n4_ := Aside0.mk (below_step (G.cB HB.out) hb)
        have z_HI0 := fun (h0_ : b 4 = false) => (show IsS83 w0 w17 g s0_0 x1001_2 from by first | exact (IsS83.below (by repeat (first | (with_reducible first | exact (Q_HI0 h0_) | apply IsS83.alloc | apply IsS83.drewN | apply IsS83.drew | apply IsS83.set_1 | refine IsS83.far ?_ NB0_602.out _) | exact (Q_HI0 h0_))) hb))
        have z_HI0_e4 := fun (h0_ : b 4 = true) => (show IsS83 w0 w17 g s0_0 t609 from by first | exact (IsS83.below (by repeat (first | (with_reducible first | exact (Q_HI0_e4 h0_) | apply IsS83.alloc | apply IsS83.drewN | apply IsS83.drew | apply IsS83.set_1 | refine IsS83.far ?_ NB0_602.out _) | exact (Q_HI0_e4 h0_))) hb))
        clear BK602 HK HB
        revert n0_ n1_ n3_ n4_
        intro HO607 BK602 HK HB
        clear hb ho18
        obtain ⟨Ao19, co19, eo19⟩ := Kd.R_slice HO607.out
        subst eo19
        obtain ⟨ado19, fo19, _⟩ := Kd.at_int (Kd.R_reads' HO607.out).2.2 0 (by decide) (by rw [Ny605.out]; simp)
        cases fo19
        refine hK.out _ _ ⟨.slice (some ado19) y605.length co19, ado19, m5_, (by rw [ha.out]; exact putSel_upk 1 hb_ rfl rfl rfl), (G.cb BK602.out), z_HI0, (G.cK HK.out), (G.cB HB.out), fun _ => (G.cR HO607.out), fun _ => ⟨_, rfl⟩, z_HI0_e4, fun h0_ => absurd ((hoff 5 (c14_5)).symm.trans h0_) (by decide)⟩
       refine steps_cons ?_ ?_
       ·rintro b a w' ⟨v606, adz_v606, m5_, ha, Q_BK602, Q_HI0, Q_HK, Q_HB, Q_HO607, Q_HA_HO607, Q_HI0_e4, Q_X5_⟩ hb_ hon hoff
        refine ⟨_, rfl, fun K hK => ?_⟩
        have e16 : a.tmps[16]? = some (.pointer (some ⟨g, 0, none⟩)) := by rw [ha]; exact (putSel_off rfl).trans rfl
        replace ha := Aside0.mk ha
        have BK602 := Aside0.mk Q_BK602
        have HI0 := Aside0.mk (Q_HI0 hb_)
        have HK := Aside0.mk Q_HK
        have HB := Aside0.mk Q_HB
        refine goes_ Try.func56 (c14_5) rfl #[.pointer (some ⟨g, 0, none⟩), .int .i64 3] (by rfl) rfl rfl (by first | (simp only [List.map_toArray, List.map_cons, List.map_nil, Act.eval, Array.getD_eq_getD_getElem?, Option.getD_some, e16]; done) | (simp only [List.map_toArray, List.map_cons, List.map_nil, Act.eval, Array.getD_eq_getD_getElem?, Option.getD_some, e16]; rfl)) ?_
        with_reducible refine (spec_l6Rd_pick.calls kj2 g s0_0 x1001_2 3 t608 t609 w0 _ ?side1 ?side2 A13.out).mono ?_
        (case side1 => exact cI14)
        (case side2 => exact cBs14 HB.out)
        rintro e w17 ⟨rfl, hi, hb, hk⟩
        refine ⟨_, rfl, ?_⟩
        have n0_ := Aside0.mk (KeepBut.blk hk (g' := gb602) (o := .cells #[.int .i64 a1_0, .slice A1_1 l1_1.length c1_1] 29 (0, 0)) (G.cb BK602.out) NB602_0.out (by simp))
        have n1_ := Aside0.mk (KeepBut.trans (G.cK HK.out) hk (.inl rfl))
        have n2_ := Aside0.mk (hb)
        have n3_ := Aside0.mk (hi)
        have z_HO607 := fun (h0_ : b 2 = true) => (show Kd.R (Kd.int .i64) 3 w17 w.heap.size (fun _ => True) v606 y605 from by first | exact (Kd.R_mono (Kd.R_keep (IsS83.apart (show IsS83 w0 _ g s0_0 x1001_2 from cI14) (by (with_reducible repeat (first | apply Kd.R_alloc | apply Kd.R_drewN | apply Kd.R_drew)); exact (Q_HO607 h0_)) (by decide)) hk (fun _ h => h.2)) (fun _ h => h.1)) | exact Kd.R_mono (Kd.R_mono (Kd.R_keep (IsS83.apart (show IsS83 w0 _ g s0_0 x1001_2 from cI14) (by (with_reducible repeat (first | apply Kd.R_alloc | apply Kd.R_drewN | apply Kd.R_drew)); exact (Q_HO607 h0_)) (by decide)) hk (fun _ h => h.2)) (fun _ h => h.1)) (fun _ h_ => by first | trivial | exact h_ | exact h_.1))
        clear BK602 HK HB HI0
        revert n0_ n1_ n2_ n3_
        intro BK602 HK HB HI0
        (try clear hb)
        (try clear hb2)
        (try clear hk)
        (try clear hi)
        refine hK.out _ _ ⟨v606, adz_v606, m5_, (by rw [ha.out]; exact putSel_upk 2 hb_ rfl rfl rfl), (G.cb BK602.out), fun h0_ => absurd ((up_self b 4).symm.trans h0_) (by decide), (G.cK HK.out), (cBs14 HB.out), z_HO607, Q_HA_HO607, fun _ => (cI14), fun h0_ => absurd ((hoff 5 (c14_5)).symm.trans h0_) (by decide)⟩
       refine steps_cons ?_ ?_
       ·rintro b a w' ⟨v606, adz_v606, m5_, ha, Q_BK602, Q_HI0, Q_HK, Q_HB, Q_HO607, Q_HA_HO607, Q_HI0_e4, Q_X5_⟩ hb_ hon hoff
        refine ⟨_, rfl, fun K hK => ?_⟩
        have e15 : a.tmps[15]? = some (v606) := by rw [ha]; exact putSel_on (e := (2, 15, v606)) 1 rfl rfl (hon 2 (c14_5)) rfl
        have e17 : a.tmps[17]? = some (.int .i64 t608) := by rw [ha]; exact putSel_on (e := (4, 17, .int .i64 t608)) 2 rfl rfl (hon 4 (c14_5)) rfl
        replace ha := Aside0.mk ha
        have BK602 := Aside0.mk Q_BK602
        have HK := Aside0.mk Q_HK
        have HB := Aside0.mk Q_HB
        have HO607 := Aside0.mk (Q_HO607 (hon 2 (c14_5)))
        have HA_HO607 := Aside0.mk (Q_HA_HO607 (hon 2 (c14_5)))
        have HI0 := Aside0.mk (Q_HI0_e4 (hon 4 (c14_5)))
        obtain ⟨c_, hv_⟩ := HA_HO607.out
        rw [hv_] at e15
        refine value_ (w1 := w') (v := .pointer (some (adz_v606.add (t608).toNat))) (by rfl) rfl ?_ ?_
        ·go_simp
         (try simp only [i64_w])
         try rfl
        refine hK.out _ _ ⟨v606, adz_v606, (.pointer (some (adz_v606.add (t608).toNat))), (by rw [ha.out]; exact putSel_upk 3 hb_ rfl rfl rfl), Q_BK602, fun h0_ => absurd ((hon 4 (c14_5)).symm.trans h0_) (by decide), Q_HK, Q_HB, Q_HO607, Q_HA_HO607, Q_HI0_e4, fun _ => rfl⟩
       refine steps_cons ?_ ?_
       ·rintro b a w' ⟨v606, adz_v606, m5_, ha, Q_BK602, Q_HI0, Q_HK, Q_HB, Q_HO607, Q_HA_HO607, Q_HI0_e4, Q_X5_⟩ hb_ hon hoff
        refine ⟨_, rfl, fun K hK => ?_⟩
        have e18 : a.tmps[18]? = some (m5_) := by rw [ha]; exact putSel_on (e := (5, 18, m5_)) 3 rfl rfl (hon 5 (c14_5)) rfl
        rw [Q_X5_ (hon 5 (c14_5))] at e18
        replace ha := Aside0.mk ha
        have BK602 := Aside0.mk Q_BK602
        have HK := Aside0.mk Q_HK
        have HB := Aside0.mk Q_HB
        have HO607 := Aside0.mk (Q_HO607 (hon 2 (c14_5)))
        have HA_HO607 := Aside0.mk (Q_HA_HO607 (hon 2 (c14_5)))
        have HI0 := Aside0.mk (Q_HI0_e4 (hon 4 (c14_5)))
        obtain ⟨c_, hv_⟩ := HA_HO607.out
        have hF_ := HO607.out
        rw [hv_] at hF_
        obtain ⟨ad_, ea_, hx_⟩ := Kd.at_int (Kd.R_reads' hF_).2.2 t608 (of_eq_true pi610) (of_eq_true qi610)
        cases ea_
        refine value_ (w1 := w') (v := .int .i64 (rd y605 t608)) (by rfl) rfl ?_ ?_
        ·go_simp
         (try simp only [i64_w])
         try rfl
        refine hK.out _ _ ⟨v606, adz_v606, m5_, (by rw [ha.out]; exact putSel_upk 4 hb_ rfl rfl rfl), Q_BK602, fun h0_ => absurd ((hon 4 (c14_5)).symm.trans h0_) (by decide), Q_HK, Q_HB, Q_HO607, Q_HA_HO607, Q_HI0_e4, Q_X5_⟩
       refine steps_cons ?_ ?_
       ·rintro b a w' ⟨v606, adz_v606, m5_, ha, Q_BK602, Q_HI0, Q_HK, Q_HB, Q_HO607, Q_HA_HO607, Q_HI0_e4, Q_X5_⟩ hb_ hon hoff
        refine ⟨_, rfl, fun K hK => ?_⟩
        have e19 : a.tmps[19]? = some (.int .i64 (rd y605 t608)) := by rw [ha]; exact putSel_on (e := (6, 19, .int .i64 (rd y605 t608))) 4 rfl rfl (hon 6 (c14_5)) rfl
        replace ha := Aside0.mk ha
        have BK602 := Aside0.mk Q_BK602
        have HK := Aside0.mk Q_HK
        have HB := Aside0.mk Q_HB
        have HO607 := Aside0.mk (Q_HO607 (hon 2 (c14_5)))
        have HA_HO607 := Aside0.mk (Q_HA_HO607 (hon 2 (c14_5)))
        have HI0 := Aside0.mk (Q_HI0_e4 (hon 4 (c14_5)))
        refine value_ (w1 := w') (v := .int .i64 (rd y605 t608)) (by rfl) rfl ?_ ?_
        ·go_simp
         (try simp only [i64_w])
         try rfl
        refine hK.out _ _ ⟨v606, adz_v606, m5_, (by rw [ha.out]; exact putSel_upk 5 hb_ rfl rfl rfl), Q_BK602, fun h0_ => absurd ((hon 4 (c14_5)).symm.trans h0_) (by decide), Q_HK, Q_HB, Q_HO607, Q_HA_HO607, Q_HI0_e4, Q_X5_⟩
       exact steps_nil
      rintro b a w21 hall ⟨v606, adz_v606, m5_, ha, Q_BK602, Q_HI0, Q_HK, Q_HB, Q_HO607, Q_HA_HO607, Q_HI0_e4, Q_X5_⟩
      clear BK602 HB HI0 HK
      have hb1_ := hall 1 (c14_5)
      have hb2_ := hall 2 (c14_5)
      have hb4_ := hall 4 (c14_5)
      have hb5_ := hall 5 (c14_5)
      have hb6_ := hall 6 (c14_5)
      have hb7_ := hall 7 (c14_5)
      subst ha
      obtain rfl := Q_X5_ hb5_
      simp only [putSel, hb1_, hb2_, hb4_, hb5_, hb6_, hb7_, if_true, Act.put, List.setIfInBounds_toArray, List.set_cons_zero, List.set_cons_succ]
      have BK602 := Aside0.mk Q_BK602
      clear Q_BK602 Q_HI0
      have HK := Aside0.mk Q_HK
      clear Q_HK
      have HB := Aside0.mk Q_HB
      clear Q_HB
      have HO607 := Aside0.mk (Q_HO607 hb2_)
      clear Q_HO607
      have HA_HO607 := Aside0.mk (Q_HA_HO607 hb2_)
      clear Q_HA_HO607
      have HI0 := Aside0.mk (Q_HI0_e4 hb4_)
      clear Q_HI0_e4
      clear hall hb1_ hb2_ hb4_ hb5_ hb6_ hb7_
      obtain ⟨co22, eo22⟩ := HA_HO607.out
      clear HA_HO607
      subst eo22
      try go_wp2
      go_ret
      exact ⟨by first | rfl | (simp [errW_none, errW_some] <;> rfl) | (simp [*, errW_none, errW_some] <;> rfl), cI14, cBs14 HB.out, G.cK HK.out⟩
     ·rw [if_neg c15] at H
      exact absurd H (by simp)
    ·rw [if_neg c14] at H
     exact absurd H (by simp)
   ·replace c12 := Bool.eq_false_iff.mpr c12
    subst c12
    have H1 : ((spec_l6Rd_pick.f kj2 s0_0 x1001_2 a1_0).bind fun bt611 => (some (bt611.1, bt611.2))) = some (r1, r2) := by rw [if_neg (show ¬ (false = true) by decide)] at H; exact H
    clear H
    have H := H1
    clear H1
    replace H := Option.bind_eq_some_iff.mp H
    obtain ⟨⟨t611, t612⟩, A230, H⟩ := H
    replace H : (some (t611, t612)) = some (r1, r2) := H
    have A23 := Aside0.mk A230
    clear A230
    simp only [Option.some.injEq, Prod.mk.injEq] at H
    obtain ⟨rfl, rfl⟩ := H
    have hnb24 := NB602_0.out
    have hnc24 := NB0_602.out
    have hcz25_0 : wc.cell? ⟨gb602, 0, none⟩ = some (.int .i64 a1_0) := (blk_cell BK602.out 0).trans rfl
    have hcz25_1 : wc.cell? ⟨gb602, 1, none⟩ = some (.slice A1_1 l1_1.length c1_1) := (blk_cell BK602.out 1).trans rfl
    have hfz25_0 := blk_frozen BK602.out 0
    have hfz25_1 := blk_frozen BK602.out 1
    go_wp2_with (first | ((with_reducible refine gate_callee (f := 56) rfl ?_); refine goesL_ (some 23) rfl rfl Try.func56 (c14_5) rfl #[.pointer (some ⟨g, 0, none⟩), .int .i64 a1_0] rfl (G.ar) ?_; (with_reducible refine (spec_l6Rd_pick.calls kj2 g s0_0 x1001_2 a1_0 t611 t612 w0 _ ?side1 ?side2 A23.out).mono ?_); (case side1 => exact cI14); (case side2 => exact cBs14 HB.out); rintro e w26 ⟨rfl, hi, hb, hk⟩; refine ⟨_, rfl, ?_⟩; have n0_ := Aside0.mk (KeepBut.blk hk (g' := gb602) (o := .cells #[.int .i64 a1_0, .slice A1_1 l1_1.length c1_1] 29 (0, 0)) (G.cb BK602.out) NB602_0.out (by simp)); have n1_ := Aside0.mk (KeepBut.trans (G.cK HK.out) hk (.inl rfl)); have n2_ := Aside0.mk (hb); have n3_ := Aside0.mk (hi); clear BK602 HK HB HI0; revert n0_ n1_ n2_ n3_; intro BK602 HK HB HI0; (try clear hb); (try clear hb2); (try clear hk); (try clear hi)))
    go_ret
    exact ⟨by first | rfl | (simp [errW_none, errW_some] <;> rfl) | (simp [*, errW_none, errW_some] <;> rfl), cI14, cBs14 HB.out, G.cK HK.out⟩

end Go.Proofs.Ytbkdpnfjcnkoeaa.P
