-- Printed by a program of this session (mp.py, over the kit's print). Not trusted: Lean checks it.
import Derived.Test.YtbkdpnfjcnkoeaaF0
import Derived.Test.YtbkdpnfjcnkoeaaF5
import Derived.Test.YtbkdpnfjcnkoeaaF16
import Derived.Test.YtbkdpnfjcnkoeaaF23
namespace Go.Proofs.Ytbkdpnfjcnkoeaa.P
open Go.RowKit Go.Proofs.YtbkdpnfjcnkoeaaW.PrintWords Go.Proofs.YtbkdpnfjcnkoeaaW.PrintLast Go.Proofs.YtbkdpnfjcnkoeaaW.PrintMore
attribute [local go_sem] max2_int min2_int max_two min_two max_three min_three max_four min_four   -- for this text's walks alone
set_option linter.unusedVariables false
set_option linter.unusedSimpArgs false

theorem c27_0 {p : Prop} (h : p := by (with_reducible repeat (first | refine blk_drewN ?_ _ | refine blk_drew ?_ | refine blk_alloc ?_ _)); refine blk_put (cs := #[.int .i64 t256, .slice none 0 0]) ?_ 1 _ rfl; (with_reducible repeat (first | refine blk_drewN ?_ _ | refine blk_drew ?_ | refine blk_alloc ?_ _)); refine blk_put (cs := #[.int .i64 0, .slice none 0 0]) ?_ 0 _ rfl; (with_reducible repeat (first | refine blk_drewN ?_ _ | refine blk_drew ?_ | refine blk_alloc ?_ _)); exact BK260.out) : p := h
theorem c27_1 {p : Prop} (h : p := by (with_reducible repeat (first | refine blk_drewN ?_ _ | refine blk_drew ?_ | refine blk_alloc ?_ _)); refine blk_far ?_ NB249_260.out _; (with_reducible repeat (first | refine blk_drewN ?_ _ | refine blk_drew ?_ | refine blk_alloc ?_ _)); refine blk_far ?_ NB249_260.out _; (with_reducible repeat (first | refine blk_drewN ?_ _ | refine blk_drew ?_ | refine blk_alloc ?_ _)); exact BK249.out) : p := h
theorem c27_2 {p : Prop} (h : p := by (with_reducible repeat (first | apply Kd.R_alloc | apply Kd.R_drewN | apply Kd.R_drew)); exact (Kd.R_mono (Kd.R_far (p := ⟨gb260, 1, none⟩) (Kd.R_far (p := ⟨gb260, 0, none⟩) (Kd.R_types HO259.out BK260.out (by decide)) (fun _ hk => hk.2) (.int .i64 t256)) (fun _ hk => hk.2) (.slice Ao25 t257.length co25)) (fun _ h_ => h_.1))) : p := h
theorem c27_3 {p : Prop} (h : p := by (with_reducible repeat (first | apply Kd.R_alloc | apply Kd.R_drewN | apply Kd.R_drew)); exact (Kd.R_mono (Kd.R_far (p := ⟨gb260, 1, none⟩) (Kd.R_far (p := ⟨gb260, 0, none⟩) (Kd.R_types HO259.out BK260.out (by decide)) (fun _ hk => hk.2) (.int .i64 t256)) (fun _ hk => hk.2) (.slice Ao42 t257.length co42)) (fun _ h_ => h_.1))) : p := h
theorem c27_4 {p : Prop} (h : p := by (with_reducible repeat (first | apply Kd.R_alloc | apply Kd.R_drewN | apply Kd.R_drew)); exact (Kd.R_mono (Kd.R_far (p := ⟨gb260, 1, none⟩) (Kd.R_far (p := ⟨gb260, 0, none⟩) (Kd.R_types HO259.out BK260.out (by decide)) (fun _ hk => hk.2) (.int .i64 t256)) (fun _ hk => hk.2) (.slice Ao60 t257.length co60)) (fun _ h_ => h_.1))) : p := h
theorem c27_5 {p : Prop} (h : p := by rw [hg]; exact Nat.ne_of_lt (blk_lt (g := gb249) (o := .cells #[.int .i64 a0_0, .slice A0_1 l0_1.length c0_1] 24 (0, 0)) (G.cb BK249.out))) : p := h
theorem c27_6 {p : Prop} (h : p := by rw [hg]; exact Nat.ne_of_gt (blk_lt (g := gb249) (o := .cells #[.int .i64 a0_0, .slice A0_1 l0_1.length c0_1] 24 (0, 0)) (G.cb BK249.out))) : p := h
theorem c27_7 {p : Prop} (h : p := by first | rfl | (simp [errW_none, errW_some] <;> rfl) | (simp [*, errW_none, errW_some] <;> rfl)) : p := h
theorem c27_8 {p : Prop} (h : p := by rw [hg]; exact (below_size (G.cB HB.out))) : p := h
theorem c27_9 {p : Prop} (h : p := by kernel_rfl) : p := h
/-! ### laws_FnExactTrailCan: function 3 -/
def laws_FnExactTrailCan.f (k : Nat) (a0_0 : Int) (l0_1 : List (S76)) (a1 : Int) : Option (Bool) := (laws_szNet.f a0_0 l0_1 1048576).bind fun t250 => (if t250 < 0 then (some true) else ((laws_toNet.f k a0_0 l0_1).bind fun bt251 => ((spec_TrailCan.f k bt251.1 bt251.2 a1).bind fun t255 => ((laws_toNet.f k a0_0 l0_1).bind fun bt256 => ((impl_TrailCan.f k bt256.1 bt256.2 a1).bind fun t261 => (if (t261 != t255) = true then (some false) else ((laws_toNet.f k a0_0 l0_1).bind fun bt262 => ((laws_eqNet.f k bt256.1 bt256.2 bt262.1 bt262.2).bind fun t266 => (if t266 = true then (some true) else (some false))))))))))
theorem laws_FnExactTrailCan.mono : ∀ a0 a1 a2 k, LeO (laws_FnExactTrailCan.f k a0 a1 a2) (laws_FnExactTrailCan.f (k + 1) a0 a1 a2) := by
 intro a0 a1 a2 k
 unfold laws_FnExactTrailCan.f
 repeat' first
   | (with_reducible exact impl_TrailCan.mono _ _ _ _)
   | (with_reducible exact laws_eqNet.mono _ _ _ _ _)
   | (with_reducible exact laws_toNet.mono _ _ _)
   | (with_reducible exact spec_TrailCan.mono _ _ _ _)
   | (with_reducible exact LeO.refl _)
   | (with_reducible exact LeO.none _)
   | (with_reducible refine LeO.ite ?_ ?_)
   | (with_reducible refine LeO.bind ?_ (fun _ => ?_))
   | exact impl_TrailCan.mono _ _ _ _
   | exact laws_eqNet.mono _ _ _ _ _
   | exact laws_toNet.mono _ _ _
   | exact spec_TrailCan.mono _ _ _ _
   | exact LeO.none _
   | refine LeO.ite ?_ ?_
   | refine LeO.bind ?_ (fun _ => ?_)
set_option maxHeartbeats 8000000 in
set_option maxRecDepth 100000 in
theorem laws_FnExactTrailCan.calls (k : Nat) (a0_0 : Int) (A0_1 : Option Addr) (c0_1 : Nat) (l0_1 : List (S76)) (a1 : Int) (r : Bool) (w : World) (hr0_1 : Kd.C k76 w A0_1 l0_1.length l0_1) (hc0_1 : l0_1.length ≤ c0_1) (h : laws_FnExactTrailCan.f k a0_0 l0_1 a1 = some r) :
  Calls Try.prog 3 #[.agg #[.int .i64 a0_0, .slice A0_1 l0_1.length c0_1], .int .i64 a1] w fun e w' => e = .returned (.bool r) ∧ Below w.heap.size w w' := by
 have hu24 := Try.underlying24
 have hu29 := Try.underlying29
 have HR0_1 := Aside0.mk hr0_1
 have HC0_1 := Aside0.mk hc0_1
 clear hr0_1 hc0_1
 have HB := Aside0.mk (Below.refl w.heap.size w)
 have H : ((laws_szNet.f a0_0 l0_1 1048576).bind fun t250 => (if t250 < 0 then (some true) else ((laws_toNet.f k a0_0 l0_1).bind fun bt251 => ((spec_TrailCan.f k bt251.1 bt251.2 a1).bind fun t255 => ((laws_toNet.f k a0_0 l0_1).bind fun bt256 => ((impl_TrailCan.f k bt256.1 bt256.2 a1).bind fun t261 => (if (t261 != t255) = true then (some false) else ((laws_toNet.f k a0_0 l0_1).bind fun bt262 => ((laws_eqNet.f k bt256.1 bt256.2 bt262.1 bt262.2).bind fun t266 => (if t266 = true then (some true) else (some false))))))))))) = some r := h
 clear h
 replace H := Option.bind_eq_some_iff.mp H
 obtain ⟨t250, A30, H⟩ := H
 replace H : (if t250 < 0 then (some true) else ((laws_toNet.f k a0_0 l0_1).bind fun bt251 => ((spec_TrailCan.f k bt251.1 bt251.2 a1).bind fun t255 => ((laws_toNet.f k a0_0 l0_1).bind fun bt256 => ((impl_TrailCan.f k bt256.1 bt256.2 a1).bind fun t261 => (if (t261 != t255) = true then (some false) else ((laws_toNet.f k a0_0 l0_1).bind fun bt262 => ((laws_eqNet.f k bt256.1 bt256.2 bt262.1 bt262.2).bind fun t266 => (if t266 = true then (some true) else (some false)))))))))) = some r := H
 have A3 := Aside0.mk A30
 clear A30
 by_cases c4 : t250 < 0
 ·rw [if_pos c4] at H
  have c4b0 : decide (t250 < 0) = true := decide_eq_true c4
  clear c4
  obtain rfl := Option.some.inj H
  go_enter Try.func3, Try.ntmps3
  go_wp2_with (first | ((with_reducible refine gate_dst (N := 2) rfl ?_); refine G.be 2 #[.int .i64 a0_0, .slice A0_1 l0_1.length c0_1] 24 ?_; intro gb249 hg w5 hbox hb; have n0_ := Aside0.mk (below_step (G.cB HB.out) hb); have n1_ := Aside0.mk (hbox); have n2_ := Aside0.mk ((c27_8 : w.heap.size ≤ gb249)); have n3_ := Aside0.mk ((c27_8 : w.heap.size ≤ gb249)); clear HB; revert n0_ n1_ n2_ n3_; intro HB BK249 GW249 GE249; clear hb hbox hg; have hcz6_0 : w5.cell? ⟨gb249, 0, none⟩ = some (.int .i64 a0_0) := (blk_cell BK249.out 0).trans rfl; have hcz6_1 : w5.cell? ⟨gb249, 1, none⟩ = some (.slice A0_1 l0_1.length c0_1) := (blk_cell BK249.out 1).trans rfl; have hfz6_0 := blk_frozen BK249.out 0; have hfz6_1 := blk_frozen BK249.out 1) | ((with_reducible refine gate_callee (f := 14) rfl ?_); refine goesL_ (some 11) rfl rfl Try.func14 (c27_9) rfl #[.agg #[.int .i64 a0_0, .slice A0_1 l0_1.length c0_1], .int .i64 1048576] rfl (G.ar) ?_; (with_reducible refine (laws_szNet.calls a0_0 _ _ l0_1 1048576 t250 _ ?side1 ?side2 A3.out).mono ?_); (case side1 => repeat (first | exact (Kd.C_below HR0_1.out HB.out) | (with_reducible refine Kd.C_alloc ?_ _) | (with_reducible refine Kd.C_drewN ?_ _) | (with_reducible refine Kd.C_drew ?_))); (case side2 => exact HC0_1.out); rintro e w7 ⟨rfl, hb⟩; refine ⟨_, rfl, ?_⟩; have n0_ := Aside0.mk (blk_below (g := gb249) (o := .cells #[.int .i64 a0_0, .slice A0_1 l0_1.length c0_1] 24 (0, 0)) (G.cb BK249.out) hb); have n1_ := Aside0.mk (below_step (G.cB HB.out) hb); clear BK249 HB; revert n0_ n1_; intro BK249 HB; (try clear hb); (try clear hb2); (try clear hk); (try clear hi)))
  go_ret
  exact ⟨c27_7, G.cB HB.out⟩
 ·rw [if_neg c4] at H
  have c4b0 : decide (t250 < 0) = false := decide_eq_false c4
  clear c4
  replace H := Option.bind_eq_some_iff.mp H
  obtain ⟨⟨t251, t252⟩, A80, H⟩ := H
  replace H : ((spec_TrailCan.f k t251 t252 a1).bind fun t255 => ((laws_toNet.f k a0_0 l0_1).bind fun bt256 => ((impl_TrailCan.f k bt256.1 bt256.2 a1).bind fun t261 => (if (t261 != t255) = true then (some false) else ((laws_toNet.f k a0_0 l0_1).bind fun bt262 => ((laws_eqNet.f k bt256.1 bt256.2 bt262.1 bt262.2).bind fun t266 => (if t266 = true then (some true) else (some false)))))))) = some r := H
  have A8 := Aside0.mk A80
  clear A80
  replace H := Option.bind_eq_some_iff.mp H
  obtain ⟨t255, A90, H⟩ := H
  replace H : ((laws_toNet.f k a0_0 l0_1).bind fun bt256 => ((impl_TrailCan.f k bt256.1 bt256.2 a1).bind fun t261 => (if (t261 != t255) = true then (some false) else ((laws_toNet.f k a0_0 l0_1).bind fun bt262 => ((laws_eqNet.f k bt256.1 bt256.2 bt262.1 bt262.2).bind fun t266 => (if t266 = true then (some true) else (some false))))))) = some r := H
  have A9 := Aside0.mk A90
  clear A90
  replace H := Option.bind_eq_some_iff.mp H
  obtain ⟨⟨t256, t257⟩, A100, H⟩ := H
  replace H : ((impl_TrailCan.f k t256 t257 a1).bind fun t261 => (if (t261 != t255) = true then (some false) else ((laws_toNet.f k a0_0 l0_1).bind fun bt262 => ((laws_eqNet.f k t256 t257 bt262.1 bt262.2).bind fun t266 => (if t266 = true then (some true) else (some false)))))) = some r := H
  have A10 := Aside0.mk A100
  clear A100
  replace H := Option.bind_eq_some_iff.mp H
  obtain ⟨t261, A110, H⟩ := H
  replace H : (if (t261 != t255) = true then (some false) else ((laws_toNet.f k a0_0 l0_1).bind fun bt262 => ((laws_eqNet.f k t256 t257 bt262.1 bt262.2).bind fun t266 => (if t266 = true then (some true) else (some false))))) = some r := H
  have A11 := Aside0.mk A110
  clear A110
  by_cases c12 : (t261 != t255) = true
  ·rw [if_pos c12] at H
   have c12b0 : (t261 != t255) = true := c12
   (try (have c12b1 : decide (t261 = t255) = false := by simpa using c12))
   (try (have c12b2 : (t261 == t255) = false := by simpa using c12))
   (try (have c12b3 : ¬ (t261 = t255) := by simpa using c12))
   clear c12
   obtain rfl := Option.some.inj H
   go_enter Try.func3, Try.ntmps3
   go_wp2_with (first | ((with_reducible refine gate_dst (N := 2) rfl ?_); refine G.be 2 #[.int .i64 a0_0, .slice A0_1 l0_1.length c0_1] 24 ?_; intro gb249 hg w13 hbox hb; have n0_ := Aside0.mk (below_step (G.cB HB.out) hb); have n1_ := Aside0.mk (hbox); have n2_ := Aside0.mk ((c27_8 : w.heap.size ≤ gb249)); have n3_ := Aside0.mk ((c27_8 : w.heap.size ≤ gb249)); clear HB; revert n0_ n1_ n2_ n3_; intro HB BK249 GW249 GE249; clear hb hbox hg; have hcz14_0 : w13.cell? ⟨gb249, 0, none⟩ = some (.int .i64 a0_0) := (blk_cell BK249.out 0).trans rfl; have hcz14_1 : w13.cell? ⟨gb249, 1, none⟩ = some (.slice A0_1 l0_1.length c0_1) := (blk_cell BK249.out 1).trans rfl; have hfz14_0 := blk_frozen BK249.out 0; have hfz14_1 := blk_frozen BK249.out 1) | ((with_reducible refine gate_callee (f := 14) rfl ?_); refine goesL_ (some 11) rfl rfl Try.func14 (c27_9) rfl #[.agg #[.int .i64 a0_0, .slice A0_1 l0_1.length c0_1], .int .i64 1048576] rfl (G.ar) ?_; (with_reducible refine (laws_szNet.calls a0_0 _ _ l0_1 1048576 t250 _ ?side1 ?side2 A3.out).mono ?_); (case side1 => repeat (first | exact (Kd.C_below HR0_1.out HB.out) | (with_reducible refine Kd.C_alloc ?_ _) | (with_reducible refine Kd.C_drewN ?_ _) | (with_reducible refine Kd.C_drew ?_))); (case side2 => exact HC0_1.out); rintro e w15 ⟨rfl, hb⟩; refine ⟨_, rfl, ?_⟩; have n0_ := Aside0.mk (blk_below (g := gb249) (o := .cells #[.int .i64 a0_0, .slice A0_1 l0_1.length c0_1] 24 (0, 0)) (G.cb BK249.out) hb); have n1_ := Aside0.mk (below_step (G.cB HB.out) hb); clear BK249 HB; revert n0_ n1_; intro BK249 HB; (try clear hb); (try clear hb2); (try clear hk); (try clear hi); have hcz16_0 : w15.cell? ⟨gb249, 0, none⟩ = some (.int .i64 a0_0) := (blk_cell BK249.out 0).trans rfl; have hcz16_1 : w15.cell? ⟨gb249, 1, none⟩ = some (.slice A0_1 l0_1.length c0_1) := (blk_cell BK249.out 1).trans rfl; have hfz16_0 := blk_frozen BK249.out 0; have hfz16_1 := blk_frozen BK249.out 1) | ((with_reducible refine gate_callee (f := 16) rfl ?_); refine goesL_ (some 15) rfl rfl Try.func16 (c27_9) rfl #[.agg #[.int .i64 a0_0, .slice A0_1 l0_1.length c0_1]] rfl (G.ar) ?_; (with_reducible refine (laws_toNet.calls k a0_0 _ _ l0_1 t251 t252 _ ?side1 ?side2 A8.out).mono ?_); (case side1 => repeat (first | exact (Kd.C_below HR0_1.out HB.out) | (with_reducible refine Kd.C_alloc ?_ _) | (with_reducible refine Kd.C_drewN ?_ _) | (with_reducible refine Kd.C_drew ?_))); (case side2 => exact HC0_1.out); rintro e w17 ⟨v253, rfl, ho0, hb⟩; refine ⟨_, rfl, ?_⟩; have n0_ := Aside0.mk (Kd.R_lower ho0 (below_size (G.cB HB.out))); have n1_ := Aside0.mk (blk_below (g := gb249) (o := .cells #[.int .i64 a0_0, .slice A0_1 l0_1.length c0_1] 24 (0, 0)) (G.cb BK249.out) hb); have n2_ := Aside0.mk (below_step (G.cB HB.out) hb); clear BK249 HB; revert n0_ n1_ n2_; intro HO254 BK249 HB; (try clear hb); (try clear hb2); (try clear hk); (try clear hi); (try clear ho0); obtain ⟨Ao18, co18, eo18⟩ := Kd.R_slice HO254.out; subst eo18) | ((with_reducible refine gate_callee (f := 15) rfl ?_); refine goesL_ (some 17) rfl rfl Try.func15 (c27_9) rfl #[.agg #[.int .i64 t251, .slice Ao18 t252.length co18], .int .i64 a1] rfl (G.ar) ?_; (with_reducible refine (spec_TrailCan.calls k t251 _ _ t252 a1 t255 _ ?side1 ?side2 A9.out).mono ?_); (case side1 => repeat (first | exact (Kd.R_reads' HO254.out).2.2 | (with_reducible refine Kd.C_alloc ?_ _) | (with_reducible refine Kd.C_drewN ?_ _) | (with_reducible refine Kd.C_drew ?_))); (case side2 => exact (Kd.R_reads' HO254.out).2.1); rintro e w19 ⟨rfl, hb⟩; refine ⟨_, rfl, ?_⟩; have n0_ := Aside0.mk (Kd.R_below (G.cR HO254.out) hb); have n1_ := Aside0.mk (blk_below (g := gb249) (o := .cells #[.int .i64 a0_0, .slice A0_1 l0_1.length c0_1] 24 (0, 0)) (G.cb BK249.out) hb); have n2_ := Aside0.mk (below_step (G.cB HB.out) hb); clear HO254 BK249 HB; revert n0_ n1_ n2_; intro HO254 BK249 HB; (try clear hb); (try clear hb2); (try clear hk); (try clear hi); have hcz20_0 : w19.cell? ⟨gb249, 0, none⟩ = some (.int .i64 a0_0) := (blk_cell BK249.out 0).trans rfl; have hcz20_1 : w19.cell? ⟨gb249, 1, none⟩ = some (.slice A0_1 l0_1.length c0_1) := (blk_cell BK249.out 1).trans rfl; have hfz20_0 := blk_frozen BK249.out 0; have hfz20_1 := blk_frozen BK249.out 1) | ((with_reducible refine gate_callee (f := 16) rfl ?_); refine goesL_ (some 19) rfl rfl Try.func16 (c27_9) rfl #[.agg #[.int .i64 a0_0, .slice A0_1 l0_1.length c0_1]] rfl (G.ar) ?_; (with_reducible refine (laws_toNet.calls k a0_0 _ _ l0_1 t256 t257 _ ?side1 ?side2 A10.out).mono ?_); (case side1 => repeat (first | exact (Kd.C_below HR0_1.out HB.out) | (with_reducible refine Kd.C_alloc ?_ _) | (with_reducible refine Kd.C_drewN ?_ _) | (with_reducible refine Kd.C_drew ?_))); (case side2 => exact HC0_1.out); rintro e w21 ⟨v258, rfl, ho0, hb⟩; refine ⟨_, rfl, ?_⟩; have n0_ := Aside0.mk (Kd.R_elder' (G.cR HO254.out) (Kd.R_base ho0) hb); have n1_ := Aside0.mk (Kd.R_lower (Kd.R_new' ho0 (Kd.R_lt (G.cR HO254.out))) (below_size (G.cB HB.out))); have n2_ := Aside0.mk (blk_below (g := gb249) (o := .cells #[.int .i64 a0_0, .slice A0_1 l0_1.length c0_1] 24 (0, 0)) (G.cb BK249.out) hb); have n3_ := Aside0.mk (below_step (G.cB HB.out) hb); clear HO254 BK249 HB; revert n0_ n1_ n2_ n3_; intro HO254 HO259 BK249 HB; (try clear hb); (try clear hb2); (try clear hk); (try clear hi); (try clear ho0)) | ((with_reducible refine gate_dst (N := 7) rfl ?_); refine G.be 7 #[.int .i64 0, .slice none 0 0] 29 ?_; intro gb260 hg w22 hbox hb; have n0_ := Aside0.mk (Kd.R_below (G.cR HO254.out) hb); have n1_ := Aside0.mk (Kd.R_below (G.cR HO259.out) hb); have n2_ := Aside0.mk (blk_below (g := gb249) (o := .cells #[.int .i64 a0_0, .slice A0_1 l0_1.length c0_1] 24 (0, 0)) (G.cb BK249.out) hb); have n3_ := Aside0.mk (below_step (G.cB HB.out) hb); have n4_ := Aside0.mk (hbox); have n5_ := Aside0.mk ((c27_8 : w.heap.size ≤ gb260)); have n6_ := Aside0.mk ((c27_8 : w.heap.size ≤ gb260)); have n7_ := Aside0.mk ((c27_5 : gb249 ≠ gb260)); have n8_ := Aside0.mk ((c27_6 : gb260 ≠ gb249)); clear HO254 HO259 BK249 HB; revert n0_ n1_ n2_ n3_ n4_ n5_ n6_ n7_ n8_; intro HO254 HO259 BK249 HB BK260 GW260 GE260 NB249_260 NB260_249; clear hb hbox hg; have hnb23 := NB260_249.out; have hnc23 := NB249_260.out; have hcz24_0 : w22.cell? ⟨gb260, 0, none⟩ = some (.int .i64 0) := (blk_cell BK260.out 0).trans rfl; have hcz24_1 : w22.cell? ⟨gb260, 1, none⟩ = some (.slice none 0 0) := (blk_cell BK260.out 1).trans rfl; have hfz24_0 := blk_frozen BK260.out 0; have hfz24_1 := blk_frozen BK260.out 1; obtain ⟨Ao25, co25, eo25⟩ := Kd.R_slice HO259.out; subst eo25) | ((with_reducible refine gate_callee (f := 17) rfl ?_); refine goesL_ (some 22) rfl rfl Try.func17 (c27_9) rfl #[.agg #[.int .i64 t256, .slice Ao25 t257.length co25], .int .i64 a1] rfl (G.ar) ?_; (with_reducible refine (impl_TrailCan.calls k t256 _ _ t257 a1 t261 _ ?side1 ?side2 A11.out).mono ?_); (case side1 => refine (Kd.R_reads' (e := 63) (base := w.heap.size) (ok := fun k_ => (True ∧ some k_ ≠ (.slice Ao18 t252.length co18 : Value).ownBlock)) (n := t257.length) (c := co25) ?_).2.2; exact (c27_2)); (case side2 => exact (Kd.R_reads' HO259.out).2.1); rintro e w26 ⟨rfl, hb⟩; refine ⟨_, rfl, ?_⟩; have n0_ := Aside0.mk (Kd.R_below (by (with_reducible repeat (first | apply Kd.R_alloc | apply Kd.R_drewN | apply Kd.R_drew)); exact (Kd.R_mono (Kd.R_far (p := ⟨gb260, 1, none⟩) (Kd.R_far (p := ⟨gb260, 0, none⟩) (Kd.R_types HO254.out BK260.out (by decide)) (fun _ hk => hk.2) (.int .i64 t256)) (fun _ hk => hk.2) (.slice Ao25 t257.length co25)) (fun _ h_ => h_.1))) hb); have n1_ := Aside0.mk (Kd.R_below (c27_2) hb); have n2_ := Aside0.mk (blk_below (g := gb249) (o := .cells #[.int .i64 a0_0, .slice A0_1 l0_1.length c0_1] 24 (0, 0)) (c27_1) hb); have n3_ := Aside0.mk (blk_below (g := gb260) (o := .cells #[.int .i64 t256, .slice Ao25 t257.length co25] 29 (0, 0)) (c27_0) hb); have n4_ := Aside0.mk (below_step (G.cB HB.out) hb); clear HO254 HO259 BK249 BK260 HB; revert n0_ n1_ n2_ n3_ n4_; intro HO254 HO259 BK249 BK260 HB; (try clear hb); (try clear hb2); (try clear hk); (try clear hi)))
   go_ret
   exact ⟨c27_7, G.cB HB.out⟩
  ·rw [if_neg c12] at H
   have c12b0 : (t261 != t255) = false := by simpa using c12
   (try (have c12b1 : decide (t261 = t255) = true := by simpa using c12))
   (try (have c12b2 : (t261 == t255) = true := by simpa using c12))
   clear c12
   replace H := Option.bind_eq_some_iff.mp H
   obtain ⟨⟨t262, t263⟩, A270, H⟩ := H
   replace H : ((laws_eqNet.f k t256 t257 t262 t263).bind fun t266 => (if t266 = true then (some true) else (some false))) = some r := H
   have A27 := Aside0.mk A270
   clear A270
   replace H := Option.bind_eq_some_iff.mp H
   obtain ⟨t266, A280, H⟩ := H
   replace H : (if t266 = true then (some true) else (some false)) = some r := H
   have A28 := Aside0.mk A280
   clear A280
   by_cases c29 : t266 = true
   ·subst c29
    have H1 : (some true) = some r := by rw [if_pos rfl] at H; exact H
    clear H
    have H := H1
    clear H1
    obtain rfl := Option.some.inj H
    go_enter Try.func3, Try.ntmps3
    try go_wp2_with (first | ((with_reducible refine gate_dst (N := 2) rfl ?_); refine G.be 2 #[.int .i64 a0_0, .slice A0_1 l0_1.length c0_1] 24 ?_; intro gb249 hg w30 hbox hb; have n0_ := Aside0.mk (below_step (G.cB HB.out) hb); have n1_ := Aside0.mk (hbox); have n2_ := Aside0.mk ((c27_8 : w.heap.size ≤ gb249)); have n3_ := Aside0.mk ((c27_8 : w.heap.size ≤ gb249)); clear HB; revert n0_ n1_ n2_ n3_; intro HB BK249 GW249 GE249; clear hb hbox hg; have hcz31_0 : w30.cell? ⟨gb249, 0, none⟩ = some (.int .i64 a0_0) := (blk_cell BK249.out 0).trans rfl; have hcz31_1 : w30.cell? ⟨gb249, 1, none⟩ = some (.slice A0_1 l0_1.length c0_1) := (blk_cell BK249.out 1).trans rfl; have hfz31_0 := blk_frozen BK249.out 0; have hfz31_1 := blk_frozen BK249.out 1) | ((with_reducible refine gate_callee (f := 14) rfl ?_); refine goesL_ (some 11) rfl rfl Try.func14 (c27_9) rfl #[.agg #[.int .i64 a0_0, .slice A0_1 l0_1.length c0_1], .int .i64 1048576] rfl (G.ar) ?_; (with_reducible refine (laws_szNet.calls a0_0 _ _ l0_1 1048576 t250 _ ?side1 ?side2 A3.out).mono ?_); (case side1 => repeat (first | exact (Kd.C_below HR0_1.out HB.out) | (with_reducible refine Kd.C_alloc ?_ _) | (with_reducible refine Kd.C_drewN ?_ _) | (with_reducible refine Kd.C_drew ?_))); (case side2 => exact HC0_1.out); rintro e w32 ⟨rfl, hb⟩; refine ⟨_, rfl, ?_⟩; have n0_ := Aside0.mk (blk_below (g := gb249) (o := .cells #[.int .i64 a0_0, .slice A0_1 l0_1.length c0_1] 24 (0, 0)) (G.cb BK249.out) hb); have n1_ := Aside0.mk (below_step (G.cB HB.out) hb); clear BK249 HB; revert n0_ n1_; intro BK249 HB; (try clear hb); (try clear hb2); (try clear hk); (try clear hi); have hcz33_0 : w32.cell? ⟨gb249, 0, none⟩ = some (.int .i64 a0_0) := (blk_cell BK249.out 0).trans rfl; have hcz33_1 : w32.cell? ⟨gb249, 1, none⟩ = some (.slice A0_1 l0_1.length c0_1) := (blk_cell BK249.out 1).trans rfl; have hfz33_0 := blk_frozen BK249.out 0; have hfz33_1 := blk_frozen BK249.out 1) | ((with_reducible refine gate_callee (f := 16) rfl ?_); refine goesL_ (some 15) rfl rfl Try.func16 (c27_9) rfl #[.agg #[.int .i64 a0_0, .slice A0_1 l0_1.length c0_1]] rfl (G.ar) ?_; (with_reducible refine (laws_toNet.calls k a0_0 _ _ l0_1 t251 t252 _ ?side1 ?side2 A8.out).mono ?_); (case side1 => repeat (first | exact (Kd.C_below HR0_1.out HB.out) | (with_reducible refine Kd.C_alloc ?_ _) | (with_reducible refine Kd.C_drewN ?_ _) | (with_reducible refine Kd.C_drew ?_))); (case side2 => exact HC0_1.out); rintro e w34 ⟨v253, rfl, ho0, hb⟩; refine ⟨_, rfl, ?_⟩; have n0_ := Aside0.mk (Kd.R_lower ho0 (below_size (G.cB HB.out))); have n1_ := Aside0.mk (blk_below (g := gb249) (o := .cells #[.int .i64 a0_0, .slice A0_1 l0_1.length c0_1] 24 (0, 0)) (G.cb BK249.out) hb); have n2_ := Aside0.mk (below_step (G.cB HB.out) hb); clear BK249 HB; revert n0_ n1_ n2_; intro HO254 BK249 HB; (try clear hb); (try clear hb2); (try clear hk); (try clear hi); (try clear ho0); obtain ⟨Ao35, co35, eo35⟩ := Kd.R_slice HO254.out; subst eo35) | ((with_reducible refine gate_callee (f := 15) rfl ?_); refine goesL_ (some 17) rfl rfl Try.func15 (c27_9) rfl #[.agg #[.int .i64 t251, .slice Ao35 t252.length co35], .int .i64 a1] rfl (G.ar) ?_; (with_reducible refine (spec_TrailCan.calls k t251 _ _ t252 a1 t255 _ ?side1 ?side2 A9.out).mono ?_); (case side1 => repeat (first | exact (Kd.R_reads' HO254.out).2.2 | (with_reducible refine Kd.C_alloc ?_ _) | (with_reducible refine Kd.C_drewN ?_ _) | (with_reducible refine Kd.C_drew ?_))); (case side2 => exact (Kd.R_reads' HO254.out).2.1); rintro e w36 ⟨rfl, hb⟩; refine ⟨_, rfl, ?_⟩; have n0_ := Aside0.mk (Kd.R_below (G.cR HO254.out) hb); have n1_ := Aside0.mk (blk_below (g := gb249) (o := .cells #[.int .i64 a0_0, .slice A0_1 l0_1.length c0_1] 24 (0, 0)) (G.cb BK249.out) hb); have n2_ := Aside0.mk (below_step (G.cB HB.out) hb); clear HO254 BK249 HB; revert n0_ n1_ n2_; intro HO254 BK249 HB; (try clear hb); (try clear hb2); (try clear hk); (try clear hi); have hcz37_0 : w36.cell? ⟨gb249, 0, none⟩ = some (.int .i64 a0_0) := (blk_cell BK249.out 0).trans rfl; have hcz37_1 : w36.cell? ⟨gb249, 1, none⟩ = some (.slice A0_1 l0_1.length c0_1) := (blk_cell BK249.out 1).trans rfl; have hfz37_0 := blk_frozen BK249.out 0; have hfz37_1 := blk_frozen BK249.out 1) | ((with_reducible refine gate_callee (f := 16) rfl ?_); refine goesL_ (some 19) rfl rfl Try.func16 (c27_9) rfl #[.agg #[.int .i64 a0_0, .slice A0_1 l0_1.length c0_1]] rfl (G.ar) ?_; (with_reducible refine (laws_toNet.calls k a0_0 _ _ l0_1 t256 t257 _ ?side1 ?side2 A10.out).mono ?_); (case side1 => repeat (first | exact (Kd.C_below HR0_1.out HB.out) | (with_reducible refine Kd.C_alloc ?_ _) | (with_reducible refine Kd.C_drewN ?_ _) | (with_reducible refine Kd.C_drew ?_))); (case side2 => exact HC0_1.out); rintro e w38 ⟨v258, rfl, ho0, hb⟩; refine ⟨_, rfl, ?_⟩; have n0_ := Aside0.mk (Kd.R_elder' (G.cR HO254.out) (Kd.R_base ho0) hb); have n1_ := Aside0.mk (Kd.R_lower (Kd.R_new' ho0 (Kd.R_lt (G.cR HO254.out))) (below_size (G.cB HB.out))); have n2_ := Aside0.mk (blk_below (g := gb249) (o := .cells #[.int .i64 a0_0, .slice A0_1 l0_1.length c0_1] 24 (0, 0)) (G.cb BK249.out) hb); have n3_ := Aside0.mk (below_step (G.cB HB.out) hb); clear HO254 BK249 HB; revert n0_ n1_ n2_ n3_; intro HO254 HO259 BK249 HB; (try clear hb); (try clear hb2); (try clear hk); (try clear hi); (try clear ho0)) | ((with_reducible refine gate_dst (N := 7) rfl ?_); refine G.be 7 #[.int .i64 0, .slice none 0 0] 29 ?_; intro gb260 hg w39 hbox hb; have n0_ := Aside0.mk (Kd.R_below (G.cR HO254.out) hb); have n1_ := Aside0.mk (Kd.R_below (G.cR HO259.out) hb); have n2_ := Aside0.mk (blk_below (g := gb249) (o := .cells #[.int .i64 a0_0, .slice A0_1 l0_1.length c0_1] 24 (0, 0)) (G.cb BK249.out) hb); have n3_ := Aside0.mk (below_step (G.cB HB.out) hb); have n4_ := Aside0.mk (hbox); have n5_ := Aside0.mk ((c27_8 : w.heap.size ≤ gb260)); have n6_ := Aside0.mk ((c27_8 : w.heap.size ≤ gb260)); have n7_ := Aside0.mk ((c27_5 : gb249 ≠ gb260)); have n8_ := Aside0.mk ((c27_6 : gb260 ≠ gb249)); clear HO254 HO259 BK249 HB; revert n0_ n1_ n2_ n3_ n4_ n5_ n6_ n7_ n8_; intro HO254 HO259 BK249 HB BK260 GW260 GE260 NB249_260 NB260_249; clear hb hbox hg; have hnb40 := NB260_249.out; have hnc40 := NB249_260.out; have hcz41_0 : w39.cell? ⟨gb260, 0, none⟩ = some (.int .i64 0) := (blk_cell BK260.out 0).trans rfl; have hcz41_1 : w39.cell? ⟨gb260, 1, none⟩ = some (.slice none 0 0) := (blk_cell BK260.out 1).trans rfl; have hfz41_0 := blk_frozen BK260.out 0; have hfz41_1 := blk_frozen BK260.out 1; obtain ⟨Ao42, co42, eo42⟩ := Kd.R_slice HO259.out; subst eo42) | ((with_reducible refine gate_callee (f := 17) rfl ?_); refine goesL_ (some 22) rfl rfl Try.func17 (c27_9) rfl #[.agg #[.int .i64 t256, .slice Ao42 t257.length co42], .int .i64 a1] rfl (G.ar) ?_; (with_reducible refine (impl_TrailCan.calls k t256 _ _ t257 a1 t261 _ ?side1 ?side2 A11.out).mono ?_); (case side1 => refine (Kd.R_reads' (e := 63) (base := w.heap.size) (ok := fun k_ => (True ∧ some k_ ≠ (.slice Ao35 t252.length co35 : Value).ownBlock)) (n := t257.length) (c := co42) ?_).2.2; exact (c27_3)); (case side2 => exact (Kd.R_reads' HO259.out).2.1); rintro e w43 ⟨rfl, hb⟩; refine ⟨_, rfl, ?_⟩; have n0_ := Aside0.mk (Kd.R_below (by (with_reducible repeat (first | apply Kd.R_alloc | apply Kd.R_drewN | apply Kd.R_drew)); exact (Kd.R_mono (Kd.R_far (p := ⟨gb260, 1, none⟩) (Kd.R_far (p := ⟨gb260, 0, none⟩) (Kd.R_types HO254.out BK260.out (by decide)) (fun _ hk => hk.2) (.int .i64 t256)) (fun _ hk => hk.2) (.slice Ao42 t257.length co42)) (fun _ h_ => h_.1))) hb); have n1_ := Aside0.mk (Kd.R_below (c27_3) hb); have n2_ := Aside0.mk (blk_below (g := gb249) (o := .cells #[.int .i64 a0_0, .slice A0_1 l0_1.length c0_1] 24 (0, 0)) (c27_1) hb); have n3_ := Aside0.mk (blk_below (g := gb260) (o := .cells #[.int .i64 t256, .slice Ao42 t257.length co42] 29 (0, 0)) (c27_0) hb); have n4_ := Aside0.mk (below_step (G.cB HB.out) hb); clear HO254 HO259 BK249 BK260 HB; revert n0_ n1_ n2_ n3_ n4_; intro HO254 HO259 BK249 BK260 HB; (try clear hb); (try clear hb2); (try clear hk); (try clear hi)))
    have n0_ := Aside0.mk (Kd.R_drew HO254.out)
    have n1_ := Aside0.mk (Kd.R_drew HO259.out)
    have n2_ := Aside0.mk (blk_drew BK249.out)
    have n3_ := Aside0.mk (blk_drew BK260.out)
    have n4_ := Aside0.mk (below_drew1 HB.out)
    clear HO254 HO259 BK249 BK260 HB
    revert n0_ n1_ n2_ n3_ n4_
    intro HO254 HO259 BK249 BK260 HB
    refine start_ (n := 5) (S := fun w' => w'.cell? ⟨gb260, 0, none⟩ = some (.int .i64 t256) ∧ w'.cell? ⟨gb260, 1, none⟩ = some (.slice Ao42 t257.length co42) ∧ w'.cell? ⟨gb249, 0, none⟩ = some (.int .i64 a0_0) ∧ w'.cell? ⟨gb249, 1, none⟩ = some (.slice A0_1 l0_1.length c0_1)) (ds := []) (G.fl 5 0) (c27_9) rfl (c27_9) ⟨(blk_cell BK260.out 0).trans rfl, (blk_cell BK260.out 1).trans rfl, (blk_cell BK249.out 0).trans rfl, (blk_cell BK249.out 1).trans rfl⟩ (fun hHeld => ?_)
    generalize w43.drew = w44 at HO254 HO259 BK249 BK260 HB hHeld ⊢
    refine G.ta4 0 (some 26) (G.fl 5 1) ?_
    refine G.ta4 1 (some 27) (G.fl 5 3) ?_
    refine one_ (i := 2) (N := some 28) (G.fl 5 7) rfl rfl (c27_9) (by decide) (fun K hK => ?_)
    refine goes_ Try.func16 (c27_9) rfl #[.agg #[.int .i64 a0_0, .slice A0_1 l0_1.length c0_1]] (by rfl) rfl rfl (G.ar) ?_
    with_reducible refine (laws_toNet.calls k a0_0 _ _ l0_1 t262 t263 _ ?side1 ?side2 A27.out).mono ?_
    (case side1 => repeat (first | exact (Kd.C_below HR0_1.out HB.out) | (with_reducible refine Kd.C_alloc ?_ _) | (with_reducible refine Kd.C_drewN ?_ _) | (with_reducible refine Kd.C_drew ?_)))
    (case side2 => exact HC0_1.out)
    rintro e w45 ⟨v264, rfl, ho0, hb⟩
    refine ⟨_, rfl, ?_⟩
    have n0_ := Aside0.mk (Kd.R_elder' (G.cR HO254.out) (Kd.R_base ho0) hb)
    have n1_ := Aside0.mk (Kd.R_elder' (G.cR HO259.out) (Kd.R_base ho0) hb)
    have n2_ := Aside0.mk (Kd.R_lower (Kd.R_new' (Kd.R_new' ho0 (Kd.R_lt (G.cR HO254.out))) (Kd.R_lt (G.cR HO259.out))) (below_size (G.cB HB.out)))
    have n3_ := Aside0.mk (blk_below (g := gb249) (o := .cells #[.int .i64 a0_0, .slice A0_1 l0_1.length c0_1] 24 (0, 0)) (G.cb BK249.out) hb)
    have n4_ := Aside0.mk (blk_below (g := gb260) (o := .cells #[.int .i64 t256, .slice Ao42 t257.length co42] 29 (0, 0)) (G.cb BK260.out) hb)
    have n5_ := Aside0.mk (below_step (G.cB HB.out) hb)
    clear HO254 HO259 BK249 BK260 HB
    revert n0_ n1_ n2_ n3_ n4_ n5_
    intro HO254 HO259 HO265 BK249 BK260 HB
    (try clear hb)
    (try clear hb2)
    (try clear hk)
    (try clear hi)
    (try clear ho0)
    obtain ⟨Ao46, co46, eo46⟩ := Kd.R_slice HO265.out
    (first | subst eo46 | (injection eo46 with f1_ f2_ f3_; have f4_ := f1_.symm; have f5_ := f3_.symm; clear f1_ f2_ f3_; subst f4_; subst f5_))
    refine hK.out _ _ ⟨(blk_cell BK260.out 0).trans rfl, (blk_cell BK260.out 1).trans rfl, (blk_cell BK249.out 0).trans rfl, (blk_cell BK249.out 1).trans rfl⟩ (fun hHeld => ?_)
    clear hK K
    refine G.no (some 28) ?_
    refine one_ (i := 3) (N := some 29) (G.fl 5 15) rfl rfl (c27_9) (by decide) (fun K hK => ?_)
    refine goes_ Try.func18 (c27_9) rfl #[.agg #[.int .i64 t256, .slice Ao42 t257.length co42], .agg #[.int .i64 t262, .slice Ao46 t263.length co46]] (by rfl) rfl rfl (G.ar) ?_
    with_reducible refine (laws_eqNet.calls k t256 _ _ t257 t262 _ _ t263 true _ ?side1 ?side2 ?side3 ?side4 A28.out).mono ?_
    (case side1 => repeat (first | exact (Kd.R_reads' HO259.out).2.2 | (with_reducible refine Kd.C_alloc ?_ _) | (with_reducible refine Kd.C_drewN ?_ _) | (with_reducible refine Kd.C_drew ?_)))
    (case side2 => exact (Kd.R_reads' HO259.out).2.1)
    (case side3 => repeat (first | exact (Kd.R_reads' HO265.out).2.2 | (with_reducible refine Kd.C_alloc ?_ _) | (with_reducible refine Kd.C_drewN ?_ _) | (with_reducible refine Kd.C_drew ?_)))
    (case side4 => exact (Kd.R_reads' HO265.out).2.1)
    rintro e w47 ⟨rfl, hb⟩
    refine ⟨_, rfl, ?_⟩
    have n0_ := Aside0.mk (Kd.R_below (G.cR HO254.out) hb)
    have n1_ := Aside0.mk (Kd.R_below (G.cR HO259.out) hb)
    have n2_ := Aside0.mk (Kd.R_below (G.cR HO265.out) hb)
    have n3_ := Aside0.mk (blk_below (g := gb249) (o := .cells #[.int .i64 a0_0, .slice A0_1 l0_1.length c0_1] 24 (0, 0)) (G.cb BK249.out) hb)
    have n4_ := Aside0.mk (blk_below (g := gb260) (o := .cells #[.int .i64 t256, .slice Ao42 t257.length co42] 29 (0, 0)) (G.cb BK260.out) hb)
    have n5_ := Aside0.mk (below_step (G.cB HB.out) hb)
    clear HO254 HO259 HO265 BK249 BK260 HB
    revert n0_ n1_ n2_ n3_ n4_ n5_
    intro HO254 HO259 HO265 BK249 BK260 HB
    (try clear hb)
    (try clear hb2)
    (try clear hk)
    (try clear hi)
    refine hK.out _ _ ⟨(blk_cell BK260.out 0).trans rfl, (blk_cell BK260.out 1).trans rfl, (blk_cell BK249.out 0).trans rfl, (blk_cell BK249.out 1).trans rfl⟩ (fun hHeld => ?_)
    clear hK K
    refine G.no (some 29) ?_
    refine G.pu 4 (some 30) (G.fl 5 31) ?_
    refine done_ (c27_9) ?_
    try go_wp2
    go_ret
    exact ⟨c27_7, G.cB HB.out⟩
   ·replace c29 := Bool.eq_false_iff.mpr c29
    subst c29
    have H1 : (some false) = some r := by rw [if_neg (show ¬ (false = true) by decide)] at H; exact H
    clear H
    have H := H1
    clear H1
    obtain rfl := Option.some.inj H
    go_enter Try.func3, Try.ntmps3
    try go_wp2_with (first | ((with_reducible refine gate_dst (N := 2) rfl ?_); refine G.be 2 #[.int .i64 a0_0, .slice A0_1 l0_1.length c0_1] 24 ?_; intro gb249 hg w48 hbox hb; have n0_ := Aside0.mk (below_step (G.cB HB.out) hb); have n1_ := Aside0.mk (hbox); have n2_ := Aside0.mk ((c27_8 : w.heap.size ≤ gb249)); have n3_ := Aside0.mk ((c27_8 : w.heap.size ≤ gb249)); clear HB; revert n0_ n1_ n2_ n3_; intro HB BK249 GW249 GE249; clear hb hbox hg; have hcz49_0 : w48.cell? ⟨gb249, 0, none⟩ = some (.int .i64 a0_0) := (blk_cell BK249.out 0).trans rfl; have hcz49_1 : w48.cell? ⟨gb249, 1, none⟩ = some (.slice A0_1 l0_1.length c0_1) := (blk_cell BK249.out 1).trans rfl; have hfz49_0 := blk_frozen BK249.out 0; have hfz49_1 := blk_frozen BK249.out 1) | ((with_reducible refine gate_callee (f := 14) rfl ?_); refine goesL_ (some 11) rfl rfl Try.func14 (c27_9) rfl #[.agg #[.int .i64 a0_0, .slice A0_1 l0_1.length c0_1], .int .i64 1048576] rfl (G.ar) ?_; (with_reducible refine (laws_szNet.calls a0_0 _ _ l0_1 1048576 t250 _ ?side1 ?side2 A3.out).mono ?_); (case side1 => repeat (first | exact (Kd.C_below HR0_1.out HB.out) | (with_reducible refine Kd.C_alloc ?_ _) | (with_reducible refine Kd.C_drewN ?_ _) | (with_reducible refine Kd.C_drew ?_))); (case side2 => exact HC0_1.out); rintro e w50 ⟨rfl, hb⟩; refine ⟨_, rfl, ?_⟩; have n0_ := Aside0.mk (blk_below (g := gb249) (o := .cells #[.int .i64 a0_0, .slice A0_1 l0_1.length c0_1] 24 (0, 0)) (G.cb BK249.out) hb); have n1_ := Aside0.mk (below_step (G.cB HB.out) hb); clear BK249 HB; revert n0_ n1_; intro BK249 HB; (try clear hb); (try clear hb2); (try clear hk); (try clear hi); have hcz51_0 : w50.cell? ⟨gb249, 0, none⟩ = some (.int .i64 a0_0) := (blk_cell BK249.out 0).trans rfl; have hcz51_1 : w50.cell? ⟨gb249, 1, none⟩ = some (.slice A0_1 l0_1.length c0_1) := (blk_cell BK249.out 1).trans rfl; have hfz51_0 := blk_frozen BK249.out 0; have hfz51_1 := blk_frozen BK249.out 1) | ((with_reducible refine gate_callee (f := 16) rfl ?_); refine goesL_ (some 15) rfl rfl Try.func16 (c27_9) rfl #[.agg #[.int .i64 a0_0, .slice A0_1 l0_1.length c0_1]] rfl (G.ar) ?_; (with_reducible refine (laws_toNet.calls k a0_0 _ _ l0_1 t251 t252 _ ?side1 ?side2 A8.out).mono ?_); (case side1 => repeat (first | exact (Kd.C_below HR0_1.out HB.out) | (with_reducible refine Kd.C_alloc ?_ _) | (with_reducible refine Kd.C_drewN ?_ _) | (with_reducible refine Kd.C_drew ?_))); (case side2 => exact HC0_1.out); rintro e w52 ⟨v253, rfl, ho0, hb⟩; refine ⟨_, rfl, ?_⟩; have n0_ := Aside0.mk (Kd.R_lower ho0 (below_size (G.cB HB.out))); have n1_ := Aside0.mk (blk_below (g := gb249) (o := .cells #[.int .i64 a0_0, .slice A0_1 l0_1.length c0_1] 24 (0, 0)) (G.cb BK249.out) hb); have n2_ := Aside0.mk (below_step (G.cB HB.out) hb); clear BK249 HB; revert n0_ n1_ n2_; intro HO254 BK249 HB; (try clear hb); (try clear hb2); (try clear hk); (try clear hi); (try clear ho0); obtain ⟨Ao53, co53, eo53⟩ := Kd.R_slice HO254.out; subst eo53) | ((with_reducible refine gate_callee (f := 15) rfl ?_); refine goesL_ (some 17) rfl rfl Try.func15 (c27_9) rfl #[.agg #[.int .i64 t251, .slice Ao53 t252.length co53], .int .i64 a1] rfl (G.ar) ?_; (with_reducible refine (spec_TrailCan.calls k t251 _ _ t252 a1 t255 _ ?side1 ?side2 A9.out).mono ?_); (case side1 => repeat (first | exact (Kd.R_reads' HO254.out).2.2 | (with_reducible refine Kd.C_alloc ?_ _) | (with_reducible refine Kd.C_drewN ?_ _) | (with_reducible refine Kd.C_drew ?_))); (case side2 => exact (Kd.R_reads' HO254.out).2.1); rintro e w54 ⟨rfl, hb⟩; refine ⟨_, rfl, ?_⟩; have n0_ := Aside0.mk (Kd.R_below (G.cR HO254.out) hb); have n1_ := Aside0.mk (blk_below (g := gb249) (o := .cells #[.int .i64 a0_0, .slice A0_1 l0_1.length c0_1] 24 (0, 0)) (G.cb BK249.out) hb); have n2_ := Aside0.mk (below_step (G.cB HB.out) hb); clear HO254 BK249 HB; revert n0_ n1_ n2_; intro HO254 BK249 HB; (try clear hb); (try clear hb2); (try clear hk); (try clear hi); have hcz55_0 : w54.cell? ⟨gb249, 0, none⟩ = some (.int .i64 a0_0) := (blk_cell BK249.out 0).trans rfl; have hcz55_1 : w54.cell? ⟨gb249, 1, none⟩ = some (.slice A0_1 l0_1.length c0_1) := (blk_cell BK249.out 1).trans rfl; have hfz55_0 := blk_frozen BK249.out 0; have hfz55_1 := blk_frozen BK249.out 1) | ((with_reducible refine gate_callee (f := 16) rfl ?_); refine goesL_ (some 19) rfl rfl Try.func16 (c27_9) rfl #[.agg #[.int .i64 a0_0, .slice A0_1 l0_1.length c0_1]] rfl (G.ar) ?_; (with_reducible refine (laws_toNet.calls k a0_0 _ _ l0_1 t256 t257 _ ?side1 ?side2 A10.out).mono ?_); (case side1 => repeat (first | exact (Kd.C_below HR0_1.out HB.out) | (with_reducible refine Kd.C_alloc ?_ _) | (with_reducible refine Kd.C_drewN ?_ _) | (with_reducible refine Kd.C_drew ?_))); (case side2 => exact HC0_1.out); rintro e w56 ⟨v258, rfl, ho0, hb⟩; refine ⟨_, rfl, ?_⟩; have n0_ := Aside0.mk (Kd.R_elder' (G.cR HO254.out) (Kd.R_base ho0) hb); have n1_ := Aside0.mk (Kd.R_lower (Kd.R_new' ho0 (Kd.R_lt (G.cR HO254.out))) (below_size (G.cB HB.out))); have n2_ := Aside0.mk (blk_below (g := gb249) (o := .cells #[.int .i64 a0_0, .slice A0_1 l0_1.length c0_1] 24 (0, 0)) (G.cb BK249.out) hb); have n3_ := Aside0.mk (below_step (G.cB HB.out) hb); clear HO254 BK249 HB; revert n0_ n1_ n2_ n3_; intro HO254 HO259 BK249 HB; (try clear hb); (try clear hb2); (try clear hk); (try clear hi); (try clear ho0)) | ((with_reducible refine gate_dst (N := 7) rfl ?_); refine G.be 7 #[.int .i64 0, .slice none 0 0] 29 ?_; intro gb260 hg w57 hbox hb; have n0_ := Aside0.mk (Kd.R_below (G.cR HO254.out) hb); have n1_ := Aside0.mk (Kd.R_below (G.cR HO259.out) hb); have n2_ := Aside0.mk (blk_below (g := gb249) (o := .cells #[.int .i64 a0_0, .slice A0_1 l0_1.length c0_1] 24 (0, 0)) (G.cb BK249.out) hb); have n3_ := Aside0.mk (below_step (G.cB HB.out) hb); have n4_ := Aside0.mk (hbox); have n5_ := Aside0.mk ((c27_8 : w.heap.size ≤ gb260)); have n6_ := Aside0.mk ((c27_8 : w.heap.size ≤ gb260)); have n7_ := Aside0.mk ((c27_5 : gb249 ≠ gb260)); have n8_ := Aside0.mk ((c27_6 : gb260 ≠ gb249)); clear HO254 HO259 BK249 HB; revert n0_ n1_ n2_ n3_ n4_ n5_ n6_ n7_ n8_; intro HO254 HO259 BK249 HB BK260 GW260 GE260 NB249_260 NB260_249; clear hb hbox hg; have hnb58 := NB260_249.out; have hnc58 := NB249_260.out; have hcz59_0 : w57.cell? ⟨gb260, 0, none⟩ = some (.int .i64 0) := (blk_cell BK260.out 0).trans rfl; have hcz59_1 : w57.cell? ⟨gb260, 1, none⟩ = some (.slice none 0 0) := (blk_cell BK260.out 1).trans rfl; have hfz59_0 := blk_frozen BK260.out 0; have hfz59_1 := blk_frozen BK260.out 1; obtain ⟨Ao60, co60, eo60⟩ := Kd.R_slice HO259.out; subst eo60) | ((with_reducible refine gate_callee (f := 17) rfl ?_); refine goesL_ (some 22) rfl rfl Try.func17 (c27_9) rfl #[.agg #[.int .i64 t256, .slice Ao60 t257.length co60], .int .i64 a1] rfl (G.ar) ?_; (with_reducible refine (impl_TrailCan.calls k t256 _ _ t257 a1 t261 _ ?side1 ?side2 A11.out).mono ?_); (case side1 => refine (Kd.R_reads' (e := 63) (base := w.heap.size) (ok := fun k_ => (True ∧ some k_ ≠ (.slice Ao53 t252.length co53 : Value).ownBlock)) (n := t257.length) (c := co60) ?_).2.2; exact (c27_4)); (case side2 => exact (Kd.R_reads' HO259.out).2.1); rintro e w61 ⟨rfl, hb⟩; refine ⟨_, rfl, ?_⟩; have n0_ := Aside0.mk (Kd.R_below (by (with_reducible repeat (first | apply Kd.R_alloc | apply Kd.R_drewN | apply Kd.R_drew)); exact (Kd.R_mono (Kd.R_far (p := ⟨gb260, 1, none⟩) (Kd.R_far (p := ⟨gb260, 0, none⟩) (Kd.R_types HO254.out BK260.out (by decide)) (fun _ hk => hk.2) (.int .i64 t256)) (fun _ hk => hk.2) (.slice Ao60 t257.length co60)) (fun _ h_ => h_.1))) hb); have n1_ := Aside0.mk (Kd.R_below (c27_4) hb); have n2_ := Aside0.mk (blk_below (g := gb249) (o := .cells #[.int .i64 a0_0, .slice A0_1 l0_1.length c0_1] 24 (0, 0)) (c27_1) hb); have n3_ := Aside0.mk (blk_below (g := gb260) (o := .cells #[.int .i64 t256, .slice Ao60 t257.length co60] 29 (0, 0)) (c27_0) hb); have n4_ := Aside0.mk (below_step (G.cB HB.out) hb); clear HO254 HO259 BK249 BK260 HB; revert n0_ n1_ n2_ n3_ n4_; intro HO254 HO259 BK249 BK260 HB; (try clear hb); (try clear hb2); (try clear hk); (try clear hi)))
    have n0_ := Aside0.mk (Kd.R_drew HO254.out)
    have n1_ := Aside0.mk (Kd.R_drew HO259.out)
    have n2_ := Aside0.mk (blk_drew BK249.out)
    have n3_ := Aside0.mk (blk_drew BK260.out)
    have n4_ := Aside0.mk (below_drew1 HB.out)
    clear HO254 HO259 BK249 BK260 HB
    revert n0_ n1_ n2_ n3_ n4_
    intro HO254 HO259 BK249 BK260 HB
    refine start_ (n := 5) (S := fun w' => w'.cell? ⟨gb260, 0, none⟩ = some (.int .i64 t256) ∧ w'.cell? ⟨gb260, 1, none⟩ = some (.slice Ao60 t257.length co60) ∧ w'.cell? ⟨gb249, 0, none⟩ = some (.int .i64 a0_0) ∧ w'.cell? ⟨gb249, 1, none⟩ = some (.slice A0_1 l0_1.length c0_1)) (ds := []) (G.fl 5 0) (c27_9) rfl (c27_9) ⟨(blk_cell BK260.out 0).trans rfl, (blk_cell BK260.out 1).trans rfl, (blk_cell BK249.out 0).trans rfl, (blk_cell BK249.out 1).trans rfl⟩ (fun hHeld => ?_)
    generalize w61.drew = w62 at HO254 HO259 BK249 BK260 HB hHeld ⊢
    refine G.ta4 0 (some 26) (G.fl 5 1) ?_
    refine G.ta4 1 (some 27) (G.fl 5 3) ?_
    refine one_ (i := 2) (N := some 28) (G.fl 5 7) rfl rfl (c27_9) (by decide) (fun K hK => ?_)
    refine goes_ Try.func16 (c27_9) rfl #[.agg #[.int .i64 a0_0, .slice A0_1 l0_1.length c0_1]] (by rfl) rfl rfl (G.ar) ?_
    with_reducible refine (laws_toNet.calls k a0_0 _ _ l0_1 t262 t263 _ ?side1 ?side2 A27.out).mono ?_
    (case side1 => repeat (first | exact (Kd.C_below HR0_1.out HB.out) | (with_reducible refine Kd.C_alloc ?_ _) | (with_reducible refine Kd.C_drewN ?_ _) | (with_reducible refine Kd.C_drew ?_)))
    (case side2 => exact HC0_1.out)
    rintro e w63 ⟨v264, rfl, ho0, hb⟩
    refine ⟨_, rfl, ?_⟩
    have n0_ := Aside0.mk (Kd.R_elder' (G.cR HO254.out) (Kd.R_base ho0) hb)
    have n1_ := Aside0.mk (Kd.R_elder' (G.cR HO259.out) (Kd.R_base ho0) hb)
    have n2_ := Aside0.mk (Kd.R_lower (Kd.R_new' (Kd.R_new' ho0 (Kd.R_lt (G.cR HO254.out))) (Kd.R_lt (G.cR HO259.out))) (below_size (G.cB HB.out)))
    have n3_ := Aside0.mk (blk_below (g := gb249) (o := .cells #[.int .i64 a0_0, .slice A0_1 l0_1.length c0_1] 24 (0, 0)) (G.cb BK249.out) hb)
    have n4_ := Aside0.mk (blk_below (g := gb260) (o := .cells #[.int .i64 t256, .slice Ao60 t257.length co60] 29 (0, 0)) (G.cb BK260.out) hb)
    have n5_ := Aside0.mk (below_step (G.cB HB.out) hb)
    clear HO254 HO259 BK249 BK260 HB
    revert n0_ n1_ n2_ n3_ n4_ n5_
    intro HO254 HO259 HO265 BK249 BK260 HB
    (try clear hb)
    (try clear hb2)
    (try clear hk)
    (try clear hi)
    (try clear ho0)
    obtain ⟨Ao64, co64, eo64⟩ := Kd.R_slice HO265.out
    (first | subst eo64 | (injection eo64 with f1_ f2_ f3_; have f4_ := f1_.symm; have f5_ := f3_.symm; clear f1_ f2_ f3_; subst f4_; subst f5_))
    refine hK.out _ _ ⟨(blk_cell BK260.out 0).trans rfl, (blk_cell BK260.out 1).trans rfl, (blk_cell BK249.out 0).trans rfl, (blk_cell BK249.out 1).trans rfl⟩ (fun hHeld => ?_)
    clear hK K
    refine G.no (some 28) ?_
    refine one_ (i := 3) (N := some 29) (G.fl 5 15) rfl rfl (c27_9) (by decide) (fun K hK => ?_)
    refine goes_ Try.func18 (c27_9) rfl #[.agg #[.int .i64 t256, .slice Ao60 t257.length co60], .agg #[.int .i64 t262, .slice Ao64 t263.length co64]] (by rfl) rfl rfl (G.ar) ?_
    with_reducible refine (laws_eqNet.calls k t256 _ _ t257 t262 _ _ t263 false _ ?side1 ?side2 ?side3 ?side4 A28.out).mono ?_
    (case side1 => repeat (first | exact (Kd.R_reads' HO259.out).2.2 | (with_reducible refine Kd.C_alloc ?_ _) | (with_reducible refine Kd.C_drewN ?_ _) | (with_reducible refine Kd.C_drew ?_)))
    (case side2 => exact (Kd.R_reads' HO259.out).2.1)
    (case side3 => repeat (first | exact (Kd.R_reads' HO265.out).2.2 | (with_reducible refine Kd.C_alloc ?_ _) | (with_reducible refine Kd.C_drewN ?_ _) | (with_reducible refine Kd.C_drew ?_)))
    (case side4 => exact (Kd.R_reads' HO265.out).2.1)
    rintro e w65 ⟨rfl, hb⟩
    refine ⟨_, rfl, ?_⟩
    have n0_ := Aside0.mk (Kd.R_below (G.cR HO254.out) hb)
    have n1_ := Aside0.mk (Kd.R_below (G.cR HO259.out) hb)
    have n2_ := Aside0.mk (Kd.R_below (G.cR HO265.out) hb)
    have n3_ := Aside0.mk (blk_below (g := gb249) (o := .cells #[.int .i64 a0_0, .slice A0_1 l0_1.length c0_1] 24 (0, 0)) (G.cb BK249.out) hb)
    have n4_ := Aside0.mk (blk_below (g := gb260) (o := .cells #[.int .i64 t256, .slice Ao60 t257.length co60] 29 (0, 0)) (G.cb BK260.out) hb)
    have n5_ := Aside0.mk (below_step (G.cB HB.out) hb)
    clear HO254 HO259 HO265 BK249 BK260 HB
    revert n0_ n1_ n2_ n3_ n4_ n5_
    intro HO254 HO259 HO265 BK249 BK260 HB
    (try clear hb)
    (try clear hb2)
    (try clear hk)
    (try clear hi)
    refine hK.out _ _ ⟨(blk_cell BK260.out 0).trans rfl, (blk_cell BK260.out 1).trans rfl, (blk_cell BK249.out 0).trans rfl, (blk_cell BK249.out 1).trans rfl⟩ (fun hHeld => ?_)
    clear hK K
    refine G.no (some 29) ?_
    refine G.pu 4 (some 30) (G.fl 5 31) ?_
    refine done_ (c27_9) ?_
    try go_wp2
    go_ret
    exact ⟨c27_7, G.cB HB.out⟩

end Go.Proofs.Ytbkdpnfjcnkoeaa.P
