-- Printed by a program of this session (mp.py, over the kit's print). Not trusted: Lean checks it.
import Derived.Test.YtbkdpnfjcnkoeaaF0
import Derived.Test.YtbkdpnfjcnkoeaaF5
import Derived.Test.YtbkdpnfjcnkoeaaF16
import Derived.Test.YtbkdpnfjcnkoeaaF25
import Derived.Test.YtbkdpnfjcnkoeaaF26
namespace Go.Proofs.Ytbkdpnfjcnkoeaa.P
open Go.RowKit Go.Proofs.YtbkdpnfjcnkoeaaW.PrintWords Go.Proofs.YtbkdpnfjcnkoeaaW.PrintLast Go.Proofs.YtbkdpnfjcnkoeaaW.PrintMore
attribute [local go_sem] max2_int min2_int max_two min_two max_three min_three max_four min_four   -- for this text's walks alone
set_option linter.unusedVariables false
set_option linter.unusedSimpArgs false

theorem c32_0 {p : Prop} (h : p := by (with_reducible repeat (first | apply Kd.R_alloc | apply Kd.R_drewN | apply Kd.R_drew)); exact (Kd.R_mono (Kd.R_far (p := ⟨gb660, 1, none⟩) (Kd.R_far (p := ⟨gb660, 0, none⟩) (Kd.R_types HO658.out BK660.out (by decide)) (fun _ hk => hk.2) (.int .i64 t655)) (fun _ hk => hk.2) (.slice Ao9 t656.length co9)) (fun _ h_ => h_.1))) : p := h
theorem c32_1 {p : Prop} (h : p := by first | rfl | (simp [errW_none, errW_some] <;> rfl) | (simp [*, errW_none, errW_some] <;> rfl)) : p := h
theorem c32_2 {p : Prop} (h : p := by first | rfl | (simp; done) | (simp [*]; done)) : p := h
/-! ### laws_FnTrailOdd: function 6 -/
mutual
def laws_FnTrailOdd.j0 : Nat → Int → Bool → Bool → Int → List (S63) → Option (Bool)
 | 0, _, _, _, _, _ => none
 | k + 1, x4, x5, x27, x661000, x661001 => if x27 = true then ((spec_TrailCan.f k x661000 x661001 x4).bind fun t663 => (some (x5 == t663))) else (laws_FnTrailOdd.l0 k x4 0 0 x661000 x661001)
def laws_FnTrailOdd.l0 : Nat → Int → Int → Int → Int → List (S63) → Option (Bool)
 | 0, _, _, _, _, _ => none
 | k + 1, x4, x6, x7, x661000, x661001 => if x7 < x661000 then ((laws_loMany.f k x661000 x661001 x7).bind fun t664 => (laws_FnTrailOdd.l0 k x4 (wrap64 (x6 + (Int.tmod t664 2))) (wrap64 (x7 + 1)) x661000 x661001)) else (if x6 = 0 then (some true) else (if x6 = 2 then ((laws_loMany.f k x661000 x661001 x4).bind fun t665 => (some ((Int.tmod t665 2) == 1))) else (some false)))
end
def laws_FnTrailOdd.f (k : Nat) (l0 : List Int) : Option (Bool) := if (l0.length : Int) > 1048576 then (some true) else ((spec_DrawTrailCan.f k l0).bind fun bt655 => ((impl_TrailCan.f k bt655.1 bt655.2.1 bt655.2.2).bind fun t661 => ((spec_TrailCan.f k bt655.1 bt655.2.1 bt655.2.2).bind fun t662 => (if (t661 != t662) = true then (laws_FnTrailOdd.j0 k bt655.2.2 t661 true bt655.1 bt655.2.1) else (laws_FnTrailOdd.j0 k bt655.2.2 t661 (!t661) bt655.1 bt655.2.1)))))
theorem laws_FnTrailOdd.mono_l : ∀ k, (∀ y0 y1 y2 y3 y4, LeO (laws_FnTrailOdd.j0 k y0 y1 y2 y3 y4) (laws_FnTrailOdd.j0 (k + 1) y0 y1 y2 y3 y4)) ∧ (∀ y0 y1 y2 y3 y4, LeO (laws_FnTrailOdd.l0 k y0 y1 y2 y3 y4) (laws_FnTrailOdd.l0 (k + 1) y0 y1 y2 y3 y4))
 | 0 => ⟨fun _ _ _ _ _ r h => by simp [laws_FnTrailOdd.j0] at h, fun _ _ _ _ _ r h => by simp [laws_FnTrailOdd.l0] at h⟩
 | k + 1 => by
  obtain ⟨ih0, ih1⟩ := laws_FnTrailOdd.mono_l k
  refine ⟨?_, ?_⟩
  ·intro y0 y1 y2 y3 y4
   unfold laws_FnTrailOdd.j0
   repeat' first
   | (with_reducible exact ih0 _ _ _ _ _)
   | (with_reducible exact ih1 _ _ _ _ _)
   | (with_reducible exact impl_TrailCan.mono _ _ _ _)
   | (with_reducible exact laws_loMany.mono _ _ _ _)
   | (with_reducible exact spec_DrawTrailCan.mono _ _)
   | (with_reducible exact spec_TrailCan.mono _ _ _ _)
   | (with_reducible exact LeO.refl _)
   | (with_reducible exact LeO.none _)
   | (with_reducible refine LeO.ite ?_ ?_)
   | (with_reducible refine LeO.bind ?_ (fun _ => ?_))
   | exact ih0 _ _ _ _ _
   | exact ih1 _ _ _ _ _
   | exact impl_TrailCan.mono _ _ _ _
   | exact laws_loMany.mono _ _ _ _
   | exact spec_DrawTrailCan.mono _ _
   | exact spec_TrailCan.mono _ _ _ _
   | exact LeO.none _
   | refine LeO.ite ?_ ?_
   | refine LeO.bind ?_ (fun _ => ?_)
  ·intro y0 y1 y2 y3 y4
   unfold laws_FnTrailOdd.l0
   repeat' first
   | (with_reducible exact ih0 _ _ _ _ _)
   | (with_reducible exact ih1 _ _ _ _ _)
   | (with_reducible exact impl_TrailCan.mono _ _ _ _)
   | (with_reducible exact laws_loMany.mono _ _ _ _)
   | (with_reducible exact spec_DrawTrailCan.mono _ _)
   | (with_reducible exact spec_TrailCan.mono _ _ _ _)
   | (with_reducible exact LeO.refl _)
   | (with_reducible exact LeO.none _)
   | (with_reducible refine LeO.ite ?_ ?_)
   | (with_reducible refine LeO.bind ?_ (fun _ => ?_))
   | exact ih0 _ _ _ _ _
   | exact ih1 _ _ _ _ _
   | exact impl_TrailCan.mono _ _ _ _
   | exact laws_loMany.mono _ _ _ _
   | exact spec_DrawTrailCan.mono _ _
   | exact spec_TrailCan.mono _ _ _ _
   | exact LeO.none _
   | refine LeO.ite ?_ ?_
   | refine LeO.bind ?_ (fun _ => ?_)
theorem laws_FnTrailOdd.mono : ∀ a0 k, LeO (laws_FnTrailOdd.f k a0) (laws_FnTrailOdd.f (k + 1) a0) := by
 intro a0 k
 obtain ⟨ih0, ih1⟩ := laws_FnTrailOdd.mono_l k
 unfold laws_FnTrailOdd.f
 repeat' first
   | (with_reducible exact ih0 _ _ _ _ _)
   | (with_reducible exact ih1 _ _ _ _ _)
   | (with_reducible exact impl_TrailCan.mono _ _ _ _)
   | (with_reducible exact laws_loMany.mono _ _ _ _)
   | (with_reducible exact spec_DrawTrailCan.mono _ _)
   | (with_reducible exact spec_TrailCan.mono _ _ _ _)
   | (with_reducible exact LeO.refl _)
   | (with_reducible exact LeO.none _)
   | (with_reducible refine LeO.ite ?_ ?_)
   | (with_reducible refine LeO.bind ?_ (fun _ => ?_))
   | exact ih0 _ _ _ _ _
   | exact ih1 _ _ _ _ _
   | exact impl_TrailCan.mono _ _ _ _
   | exact laws_loMany.mono _ _ _ _
   | exact spec_DrawTrailCan.mono _ _
   | exact spec_TrailCan.mono _ _ _ _
   | exact LeO.none _
   | refine LeO.ite ?_ ?_
   | refine LeO.bind ?_ (fun _ => ?_)
set_option maxHeartbeats 8000000 in
set_option maxRecDepth 100000 in
theorem laws_FnTrailOdd.calls (k : Nat) (A0 : Option Addr) (c0 : Nat) (l0 : List Int) (r : Bool) (w : World) (hr0 : Kd.C (Kd.int .u8) w A0 l0.length l0) (hc0 : l0.length ≤ c0) (h : laws_FnTrailOdd.f k l0 = some r) :
  Calls Try.prog 6 #[.slice A0 l0.length c0] w fun e w' => e = .returned (.bool r) ∧ Below w.heap.size w w' := by
 have hu29 := Try.underlying29
 have HR0 := Aside0.mk hr0
 have HC0 := Aside0.mk hc0
 clear hr0 hc0
 have HB := Aside0.mk (Below.refl w.heap.size w)
 have H : (if (l0.length : Int) > 1048576 then (some true) else ((spec_DrawTrailCan.f k l0).bind fun bt655 => ((impl_TrailCan.f k bt655.1 bt655.2.1 bt655.2.2).bind fun t661 => ((spec_TrailCan.f k bt655.1 bt655.2.1 bt655.2.2).bind fun t662 => (if (t661 != t662) = true then (laws_FnTrailOdd.j0 k bt655.2.2 t661 true bt655.1 bt655.2.1) else (laws_FnTrailOdd.j0 k bt655.2.2 t661 (!t661) bt655.1 bt655.2.1)))))) = some r := h
 clear h
 by_cases c2 : (l0.length : Int) > 1048576
 ·rw [if_pos c2] at H
  have c2b0 : decide (1048576 < (l0.length : Int)) = true := decide_eq_true c2
  have c2b1 : decide (1048576 < l0.length) = true := decide_eq_true (by omega)
  clear c2
  obtain rfl := Option.some.inj H
  go_enter Try.func6, Try.ntmps6
  go_wp2
  go_ret
  exact ⟨c32_1, G.cB HB.out⟩
 ·rw [if_neg c2] at H
  have c2b0 : decide (1048576 < (l0.length : Int)) = false := decide_eq_false c2
  have c2b1 : decide (1048576 < l0.length) = false := decide_eq_false (by omega)
  clear c2
  replace H := Option.bind_eq_some_iff.mp H
  obtain ⟨⟨t655, t656, t659⟩, A30, H⟩ := H
  replace H : ((impl_TrailCan.f k t655 t656 t659).bind fun t661 => ((spec_TrailCan.f k t655 t656 t659).bind fun t662 => (if (t661 != t662) = true then (laws_FnTrailOdd.j0 k t659 t661 true t655 t656) else (laws_FnTrailOdd.j0 k t659 t661 (!t661) t655 t656)))) = some r := H
  have A3 := Aside0.mk A30
  clear A30
  replace H := Option.bind_eq_some_iff.mp H
  obtain ⟨t661, A40, H⟩ := H
  replace H : ((spec_TrailCan.f k t655 t656 t659).bind fun t662 => (if (t661 != t662) = true then (laws_FnTrailOdd.j0 k t659 t661 true t655 t656) else (laws_FnTrailOdd.j0 k t659 t661 (!t661) t655 t656))) = some r := H
  have A4 := Aside0.mk A40
  clear A40
  have HC5 := Aside0.mk H
  clear H
  go_enter Try.func6, Try.ntmps6
  go_upto_region 5 with (first | ((with_reducible refine gate_callee (f := 28) rfl ?_); refine goesL_ (some 13) rfl rfl Try.func28 (by kernel_rfl) rfl #[.slice A0 l0.length c0] rfl (G.ar) ?_; (with_reducible refine (spec_DrawTrailCan.calls k _ _ l0 t655 t656 t659 _ ?side1 ?side2 A3.out).mono ?_); (case side1 => repeat (first | exact HR0.out | (with_reducible refine Kd.C_alloc ?_ _) | (with_reducible refine Kd.C_drewN ?_ _) | (with_reducible refine Kd.C_drew ?_))); (case side2 => exact HC0.out); rintro e w6 ⟨v657, rfl, ho0, hb⟩; refine ⟨_, rfl, ?_⟩; have n0_ := Aside0.mk (Kd.R_lower ho0 (below_size (G.cB HB.out))); have n1_ := Aside0.mk (below_step (G.cB HB.out) hb); clear HB; revert n0_ n1_; intro HO658 HB; (try clear hb); (try clear hb2); (try clear hk); (try clear hi); (try clear ho0)) | ((with_reducible refine gate_dst (N := 3) rfl ?_); refine G.be 3 #[.int .i64 0, .slice none 0 0] 29 ?_; intro gb660 hg w7 hbox hb; have n0_ := Aside0.mk (Kd.R_below (G.cR HO658.out) hb); have n1_ := Aside0.mk (below_step (G.cB HB.out) hb); have n2_ := Aside0.mk (hbox); have n3_ := Aside0.mk ((by rw [hg]; exact (below_size (G.cB HB.out)) : w.heap.size ≤ gb660)); have n4_ := Aside0.mk ((by rw [hg]; exact (below_size (G.cB HB.out)) : w.heap.size ≤ gb660)); clear HO658 HB; revert n0_ n1_ n2_ n3_ n4_; intro HO658 HB BK660 GW660 GE660; clear hb hbox hg; have hcz8_0 : w7.cell? ⟨gb660, 0, none⟩ = some (.int .i64 0) := (blk_cell BK660.out 0).trans rfl; have hcz8_1 : w7.cell? ⟨gb660, 1, none⟩ = some (.slice none 0 0) := (blk_cell BK660.out 1).trans rfl; have hfz8_0 := blk_frozen BK660.out 0; have hfz8_1 := blk_frozen BK660.out 1; obtain ⟨Ao9, co9, eo9⟩ := Kd.R_slice HO658.out; subst eo9) | ((with_reducible refine gate_callee (f := 17) rfl ?_); refine goesL_ (some 18) rfl rfl Try.func17 (by kernel_rfl) rfl #[.agg #[.int .i64 t655, .slice Ao9 t656.length co9], .int .i64 t659] rfl (G.ar) ?_; (with_reducible refine (impl_TrailCan.calls k t655 _ _ t656 t659 t661 _ ?side1 ?side2 A4.out).mono ?_); (case side1 => refine (Kd.R_reads' (e := 63) (base := w.heap.size) (ok := fun k_ => True) (n := t656.length) (c := co9) ?_).2.2; exact (c32_0)); (case side2 => exact (Kd.R_reads' HO658.out).2.1); rintro e w10 ⟨rfl, hb⟩; refine ⟨_, rfl, ?_⟩; have n0_ := Aside0.mk (Kd.R_below (c32_0) hb); have n1_ := Aside0.mk (blk_below (g := gb660) (o := .cells #[.int .i64 t655, .slice Ao9 t656.length co9] 29 (0, 0)) (by (with_reducible repeat (first | refine blk_drewN ?_ _ | refine blk_drew ?_ | refine blk_alloc ?_ _)); refine blk_put (cs := #[.int .i64 t655, .slice none 0 0]) ?_ 1 _ rfl; (with_reducible repeat (first | refine blk_drewN ?_ _ | refine blk_drew ?_ | refine blk_alloc ?_ _)); refine blk_put (cs := #[.int .i64 0, .slice none 0 0]) ?_ 0 _ rfl; (with_reducible repeat (first | refine blk_drewN ?_ _ | refine blk_drew ?_ | refine blk_alloc ?_ _)); exact BK660.out) hb); have n2_ := Aside0.mk (below_step (G.cB HB.out) hb); clear HO658 BK660 HB; revert n0_ n1_ n2_; intro HO658 BK660 HB; (try clear hb); (try clear hb2); (try clear hk); (try clear hi)))
  (try simp only [Act.put, List.setIfInBounds_toArray, List.set_cons_zero, List.set_cons_succ])
  go_cut [27] (fun v27 wc => ∃ (kq : Nat) (x27_4 : Bool), v27 = .bool x27_4 ∧ Aside0 (laws_FnTrailOdd.j0 kq t659 t661 x27_4 t655 t656 = some r) ∧ Aside0 (kq ≤ k) ∧ Aside0 (Kd.R k63 63 wc w.heap.size (fun _ => True) (.slice Ao9 t656.length co9) t656) ∧ Aside0 (wc.heap[gb660]? = some (.cells #[.int .i64 t655, (.slice Ao9 t656.length co9)] 29 (0, 0))) ∧ Aside0 (Below w.heap.size w wc))
  case first =>
   have H := HC5.out
   clear HC5
   replace H := Option.bind_eq_some_iff.mp H
   obtain ⟨t662, A110, H⟩ := H
   replace H : (if (t661 != t662) = true then (laws_FnTrailOdd.j0 k t659 t661 true t655 t656) else (laws_FnTrailOdd.j0 k t659 t661 (!t661) t655 t656)) = some r := H
   have A11 := Aside0.mk A110
   clear A110
   by_cases c12 : (t661 != t662) = true
   ·rw [if_pos c12] at H
    have c12b0 : (t661 != t662) = true := c12
    (try (have c12b1 : decide (t661 = t662) = false := by simpa using c12))
    (try (have c12b2 : (t661 == t662) = false := by simpa using c12))
    (try (have c12b3 : ¬ (t661 = t662) := by simpa using c12))
    clear c12
    (first | rw [c12b0] | (simp only [i64_w, i32_w]; rw [c12b0]) | skip)
    have H' := Aside0.mk H
    clear H
    have hcz13_0 : w10.cell? ⟨gb660, 0, none⟩ = some (.int .i64 t655) := (blk_cell BK660.out 0).trans rfl
    have hcz13_1 : w10.cell? ⟨gb660, 1, none⟩ = some (.slice Ao9 t656.length co9) := (blk_cell BK660.out 1).trans rfl
    have hfz13_0 := blk_frozen BK660.out 0
    have hfz13_1 := blk_frozen BK660.out 1
    go_wp2_with (first | ((with_reducible refine gate_callee (f := 15) rfl ?_); refine goesL_ (some 22) rfl rfl Try.func15 (by kernel_rfl) rfl #[.agg #[.int .i64 t655, .slice Ao9 t656.length co9], .int .i64 t659] rfl (G.ar) ?_; (with_reducible refine (spec_TrailCan.calls k t655 _ _ t656 t659 t662 _ ?side1 ?side2 A11.out).mono ?_); (case side1 => repeat (first | exact (Kd.R_reads' HO658.out).2.2 | (with_reducible refine Kd.C_alloc ?_ _) | (with_reducible refine Kd.C_drewN ?_ _) | (with_reducible refine Kd.C_drew ?_))); (case side2 => exact (Kd.R_reads' HO658.out).2.1); rintro e w14 ⟨rfl, hb⟩; refine ⟨_, rfl, ?_⟩; have n0_ := Aside0.mk (Kd.R_below (G.cR HO658.out) hb); have n1_ := Aside0.mk (blk_below (g := gb660) (o := .cells #[.int .i64 t655, .slice Ao9 t656.length co9] 29 (0, 0)) (G.cb BK660.out) hb); have n2_ := Aside0.mk (below_step (G.cB HB.out) hb); clear HO658 BK660 HB; revert n0_ n1_ n2_; intro HO658 BK660 HB; (try clear hb); (try clear hb2); (try clear hk); (try clear hi)))
    go_meet
    case rel => exact ⟨_, (true), (c32_2), H', ⟨by first | omega | exact Nat.le_refl _⟩, ⟨G.cR HO658.out⟩, ⟨G.cb BK660.out⟩, ⟨G.cB HB.out⟩⟩
   ·rw [if_neg c12] at H
    have c12b0 : (t661 != t662) = false := by simpa using c12
    (try (have c12b1 : decide (t661 = t662) = true := by simpa using c12))
    (try (have c12b2 : (t661 == t662) = true := by simpa using c12))
    clear c12
    (first | rw [c12b0] | (simp only [i64_w, i32_w]; rw [c12b0]) | skip)
    have H' := Aside0.mk H
    clear H
    have hcz15_0 : w10.cell? ⟨gb660, 0, none⟩ = some (.int .i64 t655) := (blk_cell BK660.out 0).trans rfl
    have hcz15_1 : w10.cell? ⟨gb660, 1, none⟩ = some (.slice Ao9 t656.length co9) := (blk_cell BK660.out 1).trans rfl
    have hfz15_0 := blk_frozen BK660.out 0
    have hfz15_1 := blk_frozen BK660.out 1
    go_wp2_with (first | ((with_reducible refine gate_callee (f := 15) rfl ?_); refine goesL_ (some 22) rfl rfl Try.func15 (by kernel_rfl) rfl #[.agg #[.int .i64 t655, .slice Ao9 t656.length co9], .int .i64 t659] rfl (G.ar) ?_; (with_reducible refine (spec_TrailCan.calls k t655 _ _ t656 t659 t662 _ ?side1 ?side2 A11.out).mono ?_); (case side1 => repeat (first | exact (Kd.R_reads' HO658.out).2.2 | (with_reducible refine Kd.C_alloc ?_ _) | (with_reducible refine Kd.C_drewN ?_ _) | (with_reducible refine Kd.C_drew ?_))); (case side2 => exact (Kd.R_reads' HO658.out).2.1); rintro e w16 ⟨rfl, hb⟩; refine ⟨_, rfl, ?_⟩; have n0_ := Aside0.mk (Kd.R_below (G.cR HO658.out) hb); have n1_ := Aside0.mk (blk_below (g := gb660) (o := .cells #[.int .i64 t655, .slice Ao9 t656.length co9] 29 (0, 0)) (G.cb BK660.out) hb); have n2_ := Aside0.mk (below_step (G.cB HB.out) hb); clear HO658 BK660 HB; revert n0_ n1_ n2_; intro HO658 BK660 HB; (try clear hb); (try clear hb2); (try clear hk); (try clear hi)))
    go_meet
    case rel => exact ⟨_, (!t661), (c32_2), H', ⟨by first | omega | exact Nat.le_refl _⟩, ⟨G.cR HO658.out⟩, ⟨G.cb BK660.out⟩, ⟨G.cB HB.out⟩⟩
  case rest =>
   clear HC5
   (try clear c1); (try clear c2); (try clear c2b0); (try clear c2b1); (try clear p2); (try clear c6); (try clear c12); (try clear c12b0); (try clear c12b1); (try clear c12b2); (try clear c15); (try clear hcz13_0); (try clear hcz13_1); (try clear hcz15_0); (try clear hcz15_1); (try clear hcz8_0); (try clear hcz8_1); (try clear hfz13_0); (try clear hfz13_1); (try clear hfz15_0); (try clear hfz15_1); (try clear hfz8_0); (try clear hfz8_1)
   obtain ⟨kq, x27_4, rfl, HA, HJ4, HO_661001, BK660, HB⟩ := hcut
   cases kq with
   | zero => exact absurd HA.out (by simp [laws_FnTrailOdd.j0])
   | succ kj4 =>
    have H := HA.out
    clear HA
    simp only [laws_FnTrailOdd.j0] at H
    by_cases c17 : x27_4 = true
    ·subst c17
     have H1 : ((spec_TrailCan.f kj4 t655 t656 t659).bind fun t663 => (some (t661 == t663))) = some r := by rw [if_pos rfl] at H; exact H
     clear H
     have H := H1
     clear H1
     replace H := Option.bind_eq_some_iff.mp H
     obtain ⟨t663, A180, H⟩ := H
     replace H : (some (t661 == t663)) = some r := H
     have A18 := Aside0.mk A180
     clear A180
     obtain rfl := Option.some.inj H
     have hcz19_0 : wc.cell? ⟨gb660, 0, none⟩ = some (.int .i64 t655) := (blk_cell BK660.out 0).trans rfl
     have hcz19_1 : wc.cell? ⟨gb660, 1, none⟩ = some (.slice Ao9 t656.length co9) := (blk_cell BK660.out 1).trans rfl
     have hfz19_0 := blk_frozen BK660.out 0
     have hfz19_1 := blk_frozen BK660.out 1
     go_wp2_with (first | ((with_reducible refine gate_callee (f := 15) rfl ?_); refine goesL_ (some 31) rfl rfl Try.func15 (by kernel_rfl) rfl #[.agg #[.int .i64 t655, .slice Ao9 t656.length co9], .int .i64 t659] rfl (G.ar) ?_; (with_reducible refine (spec_TrailCan.calls kj4 t655 _ _ t656 t659 t663 _ ?side1 ?side2 A18.out).mono ?_); (case side1 => repeat (first | exact (Kd.R_reads' HO_661001.out).2.2 | (with_reducible refine Kd.C_alloc ?_ _) | (with_reducible refine Kd.C_drewN ?_ _) | (with_reducible refine Kd.C_drew ?_))); (case side2 => exact (Kd.R_reads' HO_661001.out).2.1); rintro e w20 ⟨rfl, hb⟩; refine ⟨_, rfl, ?_⟩; have n0_ := Aside0.mk (Kd.R_below (G.cR HO_661001.out) hb); have n1_ := Aside0.mk (blk_below (g := gb660) (o := .cells #[.int .i64 t655, .slice Ao9 t656.length co9] 29 (0, 0)) (G.cb BK660.out) hb); have n2_ := Aside0.mk (below_step (G.cB HB.out) hb); clear HO_661001 BK660 HB; revert n0_ n1_ n2_; intro HO_661001 BK660 HB; (try clear hb); (try clear hb2); (try clear hk); (try clear hi)))
     go_ret
     exact ⟨c32_1, G.cB HB.out⟩
    ·replace c17 := Bool.eq_false_iff.mpr c17
     subst c17
     have H1 : (laws_FnTrailOdd.l0 kj4 t659 0 0 t655 t656) = some r := by rw [if_neg (show ¬ (false = true) by decide)] at H; exact H
     clear H
     have H := H1
     clear H1
     have H' := Aside0.mk H
     clear H
     go_wp2
     go_loopg [6, 7] kj4 (fun kq v6 v7 w' => ∃ (x6_2 : Int) (x7_2 : Int), v6 = .int .i64 x6_2 ∧ v7 = .int .i64 x7_2 ∧ Aside0 (laws_FnTrailOdd.l0 kq t659 x6_2 x7_2 t655 t656 = some r) ∧ Aside0 (kq ≤ kj4) ∧ Aside0 (Kd.R k63 63 w' w.heap.size (fun _ => True) (.slice Ao9 t656.length co9) t656) ∧ Aside0 (w'.heap[gb660]? = some (.cells #[.int .i64 t655, (.slice Ao9 t656.length co9)] 29 (0, 0))) ∧ Aside0 (Below w.heap.size w w'))
     case atStart => exact ⟨(0), (0), (c32_2), (c32_2), H', ⟨Nat.le_refl _⟩, ⟨G.cR HO_661001.out⟩, ⟨G.cb BK660.out⟩, ⟨G.cB HB.out⟩⟩
     case round =>
      clear H'
      (try clear c1); (try clear c2); (try clear c2b0); (try clear c2b1); (try clear p2); (try clear c6); (try clear c12); (try clear c12b0); (try clear c12b1); (try clear c12b2); (try clear c15); (try clear c17); (try clear hcz13_0); (try clear hcz13_1); (try clear hcz15_0); (try clear hcz15_1); (try clear hcz19_0); (try clear hcz19_1); (try clear hcz8_0); (try clear hcz8_1); (try clear hfz13_0); (try clear hfz13_1); (try clear hfz15_0); (try clear hfz15_1); (try clear hfz19_0); (try clear hfz19_1); (try clear hfz8_0); (try clear hfz8_1); (try clear p2)
      obtain ⟨x6_2, x7_2, rfl, rfl, HA, HK2, HO_661001, BK660, HB⟩ := hrel
      cases gk with
      | zero => exact absurd HA.out (by simp [laws_FnTrailOdd.l0])
      | succ k2 =>
       have H := HA.out
       clear HA
       simp only [laws_FnTrailOdd.l0] at H
       by_cases c21 : x7_2 < t655
       ·rw [if_pos c21] at H
        have c21b0 : decide (x7_2 < t655) = true := decide_eq_true c21
        clear c21
        replace H := Option.bind_eq_some_iff.mp H
        obtain ⟨t664, A220, H⟩ := H
        replace H : (laws_FnTrailOdd.l0 k2 t659 (wrap64 (x6_2 + (Int.tmod t664 2))) (wrap64 (x7_2 + 1)) t655 t656) = some r := H
        have A22 := Aside0.mk A220
        clear A220
        have H' := Aside0.mk H
        clear H
        have hcz23_0 : wr.cell? ⟨gb660, 0, none⟩ = some (.int .i64 t655) := (blk_cell BK660.out 0).trans rfl
        have hcz23_1 : wr.cell? ⟨gb660, 1, none⟩ = some (.slice Ao9 t656.length co9) := (blk_cell BK660.out 1).trans rfl
        have hfz23_0 := blk_frozen BK660.out 0
        have hfz23_1 := blk_frozen BK660.out 1
        go_wp2_with (first | ((with_reducible refine gate_callee (f := 29) rfl ?_); refine goesL_ (some 42) rfl rfl Try.func29 (by kernel_rfl) rfl #[.agg #[.int .i64 t655, .slice Ao9 t656.length co9], .int .i64 x7_2] rfl (G.ar) ?_; (with_reducible refine (laws_loMany.calls k2 t655 _ _ t656 x7_2 t664 _ ?side1 ?side2 A22.out).mono ?_); (case side1 => repeat (first | exact (Kd.R_reads' HO_661001.out).2.2 | (with_reducible refine Kd.C_alloc ?_ _) | (with_reducible refine Kd.C_drewN ?_ _) | (with_reducible refine Kd.C_drew ?_))); (case side2 => exact (Kd.R_reads' HO_661001.out).2.1); rintro e w24 ⟨rfl, hb⟩; refine ⟨_, rfl, ?_⟩; have n0_ := Aside0.mk (Kd.R_below (G.cR HO_661001.out) hb); have n1_ := Aside0.mk (blk_below (g := gb660) (o := .cells #[.int .i64 t655, .slice Ao9 t656.length co9] 29 (0, 0)) (G.cb BK660.out) hb); have n2_ := Aside0.mk (below_step (G.cB HB.out) hb); clear HO_661001 BK660 HB; revert n0_ n1_ n2_; intro HO_661001 BK660 HB; (try clear hb); (try clear hb2); (try clear hk); (try clear hi)))
        go_roundg k2
        case measure => have := HJ4.out; have := HK2.out; omega
        case rel => exact ⟨(wrap64 (x6_2 + (Int.tmod t664 2))), (wrap64 (x7_2 + 1)), (c32_2), (c32_2), H', ⟨by have := HJ4.out; have := HK2.out; omega⟩, ⟨G.cR HO_661001.out⟩, ⟨G.cb BK660.out⟩, ⟨G.cB HB.out⟩⟩
       ·rw [if_neg c21] at H
        have c21b0 : decide (x7_2 < t655) = false := decide_eq_false c21
        clear c21
        by_cases c25 : x6_2 = 0
        ·rw [if_pos c25] at H
         have c25b0 : (x6_2 == 0) = true := beq_iff_eq.mpr c25
         have c25b1 : (x6_2 != 0) = false := bne_eq_false_iff_eq.mpr c25
         clear c25
         obtain rfl := Option.some.inj H
         have hcz26_0 : wr.cell? ⟨gb660, 0, none⟩ = some (.int .i64 t655) := (blk_cell BK660.out 0).trans rfl
         have hcz26_1 : wr.cell? ⟨gb660, 1, none⟩ = some (.slice Ao9 t656.length co9) := (blk_cell BK660.out 1).trans rfl
         have hfz26_0 := blk_frozen BK660.out 0
         have hfz26_1 := blk_frozen BK660.out 1
         go_wp2
         go_ret
         exact ⟨c32_1, G.cB HB.out⟩
        ·rw [if_neg c25] at H
         have c25b0 : (x6_2 == 0) = false := beq_eq_false_iff_ne.mpr c25
         have c25b1 : (x6_2 != 0) = true := bne_iff_ne.mpr c25
         by_cases c27 : x6_2 = 2
         ·rw [if_pos c27] at H
          have c27b0 : (x6_2 == 2) = true := beq_iff_eq.mpr c27
          have c27b1 : (x6_2 != 2) = false := bne_eq_false_iff_eq.mpr c27
          clear c27
          replace H := Option.bind_eq_some_iff.mp H
          obtain ⟨t665, A280, H⟩ := H
          replace H : (some ((Int.tmod t665 2) == 1)) = some r := H
          have A28 := Aside0.mk A280
          clear A280
          obtain rfl := Option.some.inj H
          have hcz29_0 : wr.cell? ⟨gb660, 0, none⟩ = some (.int .i64 t655) := (blk_cell BK660.out 0).trans rfl
          have hcz29_1 : wr.cell? ⟨gb660, 1, none⟩ = some (.slice Ao9 t656.length co9) := (blk_cell BK660.out 1).trans rfl
          have hfz29_0 := blk_frozen BK660.out 0
          have hfz29_1 := blk_frozen BK660.out 1
          go_wp2_with (first | (go_at_call 29; (with_reducible refine (laws_loMany.calls k2 t655 _ _ t656 t659 t665 _ ?side1 ?side2 A28.out).mono ?_); (case side1 => repeat (first | exact (Kd.R_reads' HO_661001.out).2.2 | (with_reducible refine Kd.C_alloc ?_ _) | (with_reducible refine Kd.C_drewN ?_ _) | (with_reducible refine Kd.C_drew ?_))); (case side2 => exact (Kd.R_reads' HO_661001.out).2.1); rintro e w30 ⟨rfl, hb⟩; have n0_ := Aside0.mk (Kd.R_below (G.cR HO_661001.out) hb); have n1_ := Aside0.mk (blk_below (g := gb660) (o := .cells #[.int .i64 t655, .slice Ao9 t656.length co9] 29 (0, 0)) (G.cb BK660.out) hb); have n2_ := Aside0.mk (below_step (G.cB HB.out) hb); clear HO_661001 BK660 HB; revert n0_ n1_ n2_; intro HO_661001 BK660 HB; (try clear hb); (try clear hb2); (try clear hk); (try clear hi)))
          go_ret
          exact ⟨c32_1, G.cB HB.out⟩
         ·rw [if_neg c27] at H
          have c27b0 : (x6_2 == 2) = false := beq_eq_false_iff_ne.mpr c27
          have c27b1 : (x6_2 != 2) = true := bne_iff_ne.mpr c27
          obtain rfl := Option.some.inj H
          have hcz31_0 : wr.cell? ⟨gb660, 0, none⟩ = some (.int .i64 t655) := (blk_cell BK660.out 0).trans rfl
          have hcz31_1 : wr.cell? ⟨gb660, 1, none⟩ = some (.slice Ao9 t656.length co9) := (blk_cell BK660.out 1).trans rfl
          have hfz31_0 := blk_frozen BK660.out 0
          have hfz31_1 := blk_frozen BK660.out 1
          go_wp2
          go_ret
          exact ⟨c32_1, G.cB HB.out⟩

end Go.Proofs.Ytbkdpnfjcnkoeaa.P
