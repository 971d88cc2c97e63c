-- Printed by a program of this session (mp.py, over the kit's print). Not trusted: Lean checks it.
import Derived.Test.YtbkdpnfjcnkoeaaF0
import Derived.Test.YtbkdpnfjcnkoeaaF2
import Derived.Test.YtbkdpnfjcnkoeaaF3
import Derived.Test.YtbkdpnfjcnkoeaaF6
namespace Go.Proofs.Ytbkdpnfjcnkoeaa.P
open Go.RowKit Go.Proofs.YtbkdpnfjcnkoeaaW.PrintWords Go.Proofs.YtbkdpnfjcnkoeaaW.PrintLast Go.Proofs.YtbkdpnfjcnkoeaaW.PrintMore
attribute [local go_sem] max2_int min2_int max_two min_two max_three min_three max_four min_four   -- for this text's walks alone
set_option linter.unusedVariables false
set_option linter.unusedSimpArgs false

theorem c11_0 {p : Prop} (h : p := by (with_reducible repeat (first | refine blk_drewN ?_ _ | refine blk_drew ?_ | refine blk_alloc ?_ _)); refine blk_put (cs := #[.int .i64 a0_0, u496001]) ?_ 1 _ rfl; (with_reducible repeat (first | refine blk_drewN ?_ _ | refine blk_drew ?_ | refine blk_alloc ?_ _)); exact BK495.out) : p := h
theorem c11_1 {p : Prop} (h : p := by (with_reducible repeat (first | refine blk_drewN ?_ _ | refine blk_drew ?_ | refine blk_alloc ?_ _)); refine blk_far ?_ NB490_495.out _; (with_reducible repeat (first | refine blk_drewN ?_ _ | refine blk_drew ?_ | refine blk_alloc ?_ _)); exact BK490.out) : p := h
theorem c11_2 {p : Prop} (h : p := by (with_reducible repeat (first | refine blk_drewN ?_ _ | refine blk_drew ?_ | refine blk_alloc ?_ _)); refine blk_far ?_ NB491_495.out _; (with_reducible repeat (first | refine blk_drewN ?_ _ | refine blk_drew ?_ | refine blk_alloc ?_ _)); exact BK491.out) : p := h
theorem c11_3 {p : Prop} (h : p := by (with_reducible repeat (first | refine blk_drewN ?_ _ | refine blk_drew ?_ | refine blk_alloc ?_ _)); refine blk_far ?_ NB498_495.out _; (with_reducible repeat (first | refine blk_drewN ?_ _ | refine blk_drew ?_ | refine blk_alloc ?_ _)); exact BK498.out) : p := h
theorem c11_4 {p : Prop} (h : p := by rw [hg]; exact Nat.ne_of_lt (blk_lt (g := gb490) (o := .cells #[.int .i64 a0_0, .slice A0_1 l0_1.length c0_1] 29 (0, 0)) (G.cb BK490.out))) : p := h
theorem c11_5 {p : Prop} (h : p := by rw [hg]; exact Nat.ne_of_gt (blk_lt (g := gb490) (o := .cells #[.int .i64 a0_0, .slice A0_1 l0_1.length c0_1] 29 (0, 0)) (G.cb BK490.out))) : p := h
theorem c11_6 {p : Prop} (h : p := by first | rfl | (simp; done) | (simp [*]; done)) : p := h
theorem c11_7 {p : Prop} (h : p := by rw [hg]; exact (below_size (G.cB HB.out))) : p := h
theorem c11_8 {p : Prop} (h : p := by kernel_rfl) : p := h
/-! ### spec_NetAdd: function 72 -/
mutual
def spec_NetAdd.j0 : Nat → Int → Int → Bool → Int → List (S63) → Option (Int × (List (S63)) × Bool)
 | 0, _, _, _, _, _ => none
 | k + 1, x1, x2, x32, x491000, x491001 => if x32 = true then (some (0, ([] : List (S63)), false)) else ((spec_l1Tie.f x1 x2).bind fun bt496 => (spec_NetAdd.l0 k false 0 x491000 x491001 x491000 ([] : List (S63)) bt496.1 bt496.2))
def spec_NetAdd.l0 : Nat → Bool → Int → Int → List (S63) → Int → List (S63) → Int → Int → Option (Int × (List (S63)) × Bool)
 | 0, _, _, _, _, _, _, _, _ => none
 | k + 1, x10, x11, x491000, x491001, x496000, x496001, x499000, x499001 => if x11 < (x491001.length : Int) then (if x10 = true then (if 0 ≤ x11 then (if x496001.length < 8796093022208 then (spec_NetAdd.l0 k x10 (wrap64 (x11 + 1)) x491000 x491001 x496000 (x496001 ++ [(⟨(rd_T63 x491001 x11).f0, (rd_T63 x491001 x11).f1⟩ : S63)]) x499000 x499001) else (none)) else (none)) else (if 0 ≤ x11 then ((spec_l1Less.f x499000 x499001 ((rd_T63 x491001 x11).f0) ((rd_T63 x491001 x11).f1)).bind fun t504 => (if t504 = true then (if x496001.length < 8796093022208 then ((some (x496001 ++ [(⟨x499000, x499001⟩ : S63)] : List (S63))).bind fun y505 => (if y505.length < 8796093022208 then (spec_NetAdd.l0 k true (wrap64 (x11 + 1)) x491000 x491001 x496000 (y505 ++ [(⟨(rd_T63 x491001 x11).f0, (rd_T63 x491001 x11).f1⟩ : S63)]) x499000 x499001) else (none))) else (none)) else (if x496001.length < 8796093022208 then (spec_NetAdd.l0 k x10 (wrap64 (x11 + 1)) x491000 x491001 x496000 (x496001 ++ [(⟨(rd_T63 x491001 x11).f0, (rd_T63 x491001 x11).f1⟩ : S63)]) x499000 x499001) else (none)))) else (none))) else (if x10 = true then (some (x496000, x496001, true)) else (if x496001.length < 8796093022208 then (some (x496000, (x496001 ++ [(⟨x499000, x499001⟩ : S63)]), true)) else (none)))
end
def spec_NetAdd.f (k : Nat) (a0_0 : Int) (l0_1 : List (S63)) (a1 : Int) (a2 : Int) : Option (Int × (List (S63)) × Bool) := (spec_l1Knot.f k a0_0 l0_1 a1).bind fun t492 => (if t492 = true then ((spec_l1Knot.f k a0_0 l0_1 a2).bind fun t493 => (if t493 = true then (if a1 = a2 then (spec_NetAdd.j0 k a1 a2 true a0_0 l0_1) else ((spec_NetHas.f k a0_0 l0_1 a1 a2).bind fun t494 => (spec_NetAdd.j0 k a1 a2 t494 a0_0 l0_1))) else (spec_NetAdd.j0 k a1 a2 true a0_0 l0_1))) else (spec_NetAdd.j0 k a1 a2 true a0_0 l0_1))
theorem spec_NetAdd.mono_l : ∀ k, (∀ y0 y1 y2 y3 y4, LeO (spec_NetAdd.j0 k y0 y1 y2 y3 y4) (spec_NetAdd.j0 (k + 1) y0 y1 y2 y3 y4)) ∧ (∀ y0 y1 y2 y3 y4 y5 y6 y7, LeO (spec_NetAdd.l0 k y0 y1 y2 y3 y4 y5 y6 y7) (spec_NetAdd.l0 (k + 1) y0 y1 y2 y3 y4 y5 y6 y7))
 | 0 => ⟨fun _ _ _ _ _ r h => by simp [spec_NetAdd.j0] at h, fun _ _ _ _ _ _ _ _ r h => by simp [spec_NetAdd.l0] at h⟩
 | k + 1 => by
  obtain ⟨ih0, ih1⟩ := spec_NetAdd.mono_l k
  refine ⟨?_, ?_⟩
  ·intro y0 y1 y2 y3 y4
   unfold spec_NetAdd.j0
   repeat' first
   | (with_reducible exact ih0 _ _ _ _ _)
   | (with_reducible exact ih1 _ _ _ _ _ _ _ _)
   | (with_reducible exact spec_NetHas.mono _ _ _ _ _)
   | (with_reducible exact spec_l1Knot.mono _ _ _ _)
   | (with_reducible exact LeO.refl _)
   | (with_reducible exact LeO.none _)
   | (with_reducible refine LeO.ite ?_ ?_)
   | (with_reducible refine LeO.bind ?_ (fun _ => ?_))
   | exact ih0 _ _ _ _ _
   | exact ih1 _ _ _ _ _ _ _ _
   | exact spec_NetHas.mono _ _ _ _ _
   | exact spec_l1Knot.mono _ _ _ _
   | exact LeO.none _
   | refine LeO.ite ?_ ?_
   | refine LeO.bind ?_ (fun _ => ?_)
  ·intro y0 y1 y2 y3 y4 y5 y6 y7
   unfold spec_NetAdd.l0
   repeat' first
   | (with_reducible exact ih0 _ _ _ _ _)
   | (with_reducible exact ih1 _ _ _ _ _ _ _ _)
   | (with_reducible exact spec_NetHas.mono _ _ _ _ _)
   | (with_reducible exact spec_l1Knot.mono _ _ _ _)
   | (with_reducible exact LeO.refl _)
   | (with_reducible exact LeO.none _)
   | (with_reducible refine LeO.ite ?_ ?_)
   | (with_reducible refine LeO.bind ?_ (fun _ => ?_))
   | exact ih0 _ _ _ _ _
   | exact ih1 _ _ _ _ _ _ _ _
   | exact spec_NetHas.mono _ _ _ _ _
   | exact spec_l1Knot.mono _ _ _ _
   | exact LeO.none _
   | refine LeO.ite ?_ ?_
   | refine LeO.bind ?_ (fun _ => ?_)
theorem spec_NetAdd.mono : ∀ a0 a1 a2 a3 k, LeO (spec_NetAdd.f k a0 a1 a2 a3) (spec_NetAdd.f (k + 1) a0 a1 a2 a3) := by
 intro a0 a1 a2 a3 k
 obtain ⟨ih0, ih1⟩ := spec_NetAdd.mono_l k
 unfold spec_NetAdd.f
 repeat' first
   | (with_reducible exact ih0 _ _ _ _ _)
   | (with_reducible exact ih1 _ _ _ _ _ _ _ _)
   | (with_reducible exact spec_NetHas.mono _ _ _ _ _)
   | (with_reducible exact spec_l1Knot.mono _ _ _ _)
   | (with_reducible exact LeO.refl _)
   | (with_reducible exact LeO.none _)
   | (with_reducible refine LeO.ite ?_ ?_)
   | (with_reducible refine LeO.bind ?_ (fun _ => ?_))
   | exact ih0 _ _ _ _ _
   | exact ih1 _ _ _ _ _ _ _ _
   | exact spec_NetHas.mono _ _ _ _ _
   | exact spec_l1Knot.mono _ _ _ _
   | exact LeO.none _
   | refine LeO.ite ?_ ?_
   | refine LeO.bind ?_ (fun _ => ?_)
def spec_NetAdd.T9 : Bool × List (List Nat × List Nat) := (true, [([], []), ([0], [0]), ([1], [1]), ([2], [2]), ([2], [2]), ([4, 2], [2, 4]), ([2], [2]), ([5, 6, 2], [2, 5, 6]), ([7, 2], [2, 7]), ([3, 8, 2, 2], [2, 3, 8]), ([2, 9], [2, 9])])
def spec_NetAdd.B9 : List Nat := [0, 1, 3, 7, 7, 23, 7, 119, 247, 511, 1023]
theorem spec_NetAdd.tab9 : rtab .any (opsOf Try.f72 9) = spec_NetAdd.T9 := by kernel_rfl
theorem spec_NetAdd.bits9 : waitsOk spec_NetAdd.T9.2 spec_NetAdd.B9 = true := by kernel_rfl
def spec_NetAdd.T12 : Bool × List (List Nat × List Nat) := (true, [([], []), ([0], [0]), ([], []), ([2], [2]), ([], []), ([3, 4], [3, 4]), ([5], [5]), ([6], [6]), ([1, 7], [1, 7]), ([0, 1, 2, 3, 4, 5, 6, 7, 8], []), ([9, 8, 8, 0, 1, 2, 3, 4, 5, 6, 7, 8], [8, 9])])
def spec_NetAdd.B12 : List Nat := [0, 1, 0, 4, 0, 28, 60, 124, 255, 511, 1023]
theorem spec_NetAdd.tab12 : rtab .any (opsOf Try.f72 12) = spec_NetAdd.T12 := by kernel_rfl
theorem spec_NetAdd.bits12 : waitsOk spec_NetAdd.T12.2 spec_NetAdd.B12 = true := by kernel_rfl
set_option maxHeartbeats 8000000 in
set_option maxRecDepth 100000 in
theorem spec_NetAdd.calls (k : Nat) (a0_0 : Int) (A0_1 : Option Addr) (c0_1 : Nat) (l0_1 : List (S63)) (a1 : Int) (a2 : Int) (r1 : Int) (r2 : List (S63)) (r3 : Bool) (w : World) (hr0_1 : Kd.C k63 w A0_1 l0_1.length l0_1) (hc0_1 : l0_1.length ≤ c0_1) (h : spec_NetAdd.f k a0_0 l0_1 a1 a2 = some (r1, r2, r3)) :
  Calls Try.prog 72 #[.agg #[.int .i64 a0_0, .slice A0_1 l0_1.length c0_1], .int .i64 a1, .int .i64 a2] w fun e w' => ∃ v1_ : Value, e = .returned (.tuple #[.agg #[.int .i64 r1, v1_], .bool r3]) ∧ Kd.R k63 63 w' w.heap.size (fun _ => True) v1_ r2 ∧ Below w.heap.size w w' := by
 have hu29 := Try.underlying29
 have hu63 := Try.underlying63
 have HR0_1 := Aside0.mk hr0_1
 have HC0_1 := Aside0.mk hc0_1
 clear hr0_1 hc0_1
 have HB := Aside0.mk (Below.refl w.heap.size w)
 have H : ((spec_l1Knot.f k a0_0 l0_1 a1).bind fun t492 => (if t492 = true then ((spec_l1Knot.f k a0_0 l0_1 a2).bind fun t493 => (if t493 = true then (if a1 = a2 then (spec_NetAdd.j0 k a1 a2 true a0_0 l0_1) else ((spec_NetHas.f k a0_0 l0_1 a1 a2).bind fun t494 => (spec_NetAdd.j0 k a1 a2 t494 a0_0 l0_1))) else (spec_NetAdd.j0 k a1 a2 true a0_0 l0_1))) else (spec_NetAdd.j0 k a1 a2 true a0_0 l0_1))) = some (r1, r2, r3) := h
 clear h
 have HC4 := Aside0.mk H
 clear H
 go_enter Try.func72, Try.ntmps72
 go_upto_region 1 with (first | ((with_reducible refine gate_dst (N := 3) rfl ?_); refine G.be 3 #[.int .i64 a0_0, .slice A0_1 l0_1.length c0_1] 29 ?_; intro gb490 hg w5 hbox hb; have n0_ := Aside0.mk (below_step (G.cB HB.out) hb); have n1_ := Aside0.mk (hbox); have n2_ := Aside0.mk ((c11_7 : w.heap.size ≤ gb490)); have n3_ := Aside0.mk ((c11_7 : w.heap.size ≤ gb490)); clear HB; revert n0_ n1_ n2_ n3_; intro HB BK490 GW490 GE490; clear hb hbox hg) | ((with_reducible refine gate_dst (N := 6) rfl ?_); refine G.be 6 #[.int .i64 0, .slice none 0 0] 29 ?_; intro gb491 hg w6 hbox hb; have n0_ := Aside0.mk (blk_below (g := gb490) (o := .cells #[.int .i64 a0_0, .slice A0_1 l0_1.length c0_1] 29 (0, 0)) (G.cb BK490.out) hb); have n1_ := Aside0.mk (below_step (G.cB HB.out) hb); have n2_ := Aside0.mk (hbox); have n3_ := Aside0.mk ((c11_7 : w.heap.size ≤ gb491)); have n4_ := Aside0.mk ((c11_7 : w.heap.size ≤ gb491)); have n5_ := Aside0.mk ((c11_4 : gb490 ≠ gb491)); have n6_ := Aside0.mk ((c11_5 : gb491 ≠ gb490)); clear BK490 HB; revert n0_ n1_ n2_ n3_ n4_ n5_ n6_; intro BK490 HB BK491 GW491 GE491 NB490_491 NB491_490; clear hb hbox hg))
 (try simp only [Act.put, List.setIfInBounds_toArray, List.set_cons_zero, List.set_cons_succ])
 go_cut [32] (fun v32 wc => ∃ (kq : Nat) (x32_3 : Bool), v32 = .bool x32_3 ∧ Aside0 (spec_NetAdd.j0 kq a1 a2 x32_3 a0_0 l0_1 = some (r1, r2, r3)) ∧ Aside0 (kq ≤ k) ∧ Aside0 (wc.heap[gb490]? = some (.cells #[.int .i64 a0_0, (.slice A0_1 l0_1.length c0_1)] 29 (0, 0))) ∧ Aside0 (wc.heap[gb491]? = some (.cells #[.int .i64 0, (.slice none 0 0)] 29 (0, 0))) ∧ Aside0 (Below w.heap.size w wc))
 case first =>
  have H := HC4.out
  clear HC4
  replace H := Option.bind_eq_some_iff.mp H
  obtain ⟨t492, A70, H⟩ := H
  replace H : (if t492 = true then ((spec_l1Knot.f k a0_0 l0_1 a2).bind fun t493 => (if t493 = true then (if a1 = a2 then (spec_NetAdd.j0 k a1 a2 true a0_0 l0_1) else ((spec_NetHas.f k a0_0 l0_1 a1 a2).bind fun t494 => (spec_NetAdd.j0 k a1 a2 t494 a0_0 l0_1))) else (spec_NetAdd.j0 k a1 a2 true a0_0 l0_1))) else (spec_NetAdd.j0 k a1 a2 true a0_0 l0_1)) = some (r1, r2, r3) := H
  have A7 := Aside0.mk A70
  clear A70
  by_cases c8 : t492 = true
  ·subst c8
   have H1 : ((spec_l1Knot.f k a0_0 l0_1 a2).bind fun t493 => (if t493 = true then (if a1 = a2 then (spec_NetAdd.j0 k a1 a2 true a0_0 l0_1) else ((spec_NetHas.f k a0_0 l0_1 a1 a2).bind fun t494 => (spec_NetAdd.j0 k a1 a2 t494 a0_0 l0_1))) else (spec_NetAdd.j0 k a1 a2 true a0_0 l0_1))) = some (r1, r2, r3) := by rw [if_pos rfl] at H; exact H
   clear H
   have H := H1
   clear H1
   replace H := Option.bind_eq_some_iff.mp H
   obtain ⟨t493, A90, H⟩ := H
   replace H : (if t493 = true then (if a1 = a2 then (spec_NetAdd.j0 k a1 a2 true a0_0 l0_1) else ((spec_NetHas.f k a0_0 l0_1 a1 a2).bind fun t494 => (spec_NetAdd.j0 k a1 a2 t494 a0_0 l0_1))) else (spec_NetAdd.j0 k a1 a2 true a0_0 l0_1)) = some (r1, r2, r3) := H
   have A9 := Aside0.mk A90
   clear A90
   by_cases c10 : t493 = true
   ·subst c10
    have H1 : (if a1 = a2 then (spec_NetAdd.j0 k a1 a2 true a0_0 l0_1) else ((spec_NetHas.f k a0_0 l0_1 a1 a2).bind fun t494 => (spec_NetAdd.j0 k a1 a2 t494 a0_0 l0_1))) = some (r1, r2, r3) := by rw [if_pos rfl] at H; exact H
    clear H
    have H := H1
    clear H1
    by_cases c11 : a1 = a2
    ·rw [if_pos c11] at H
     have c11b0 : (a1 == a2) = true := beq_iff_eq.mpr c11
     have c11b1 : (a1 != a2) = false := bne_eq_false_iff_eq.mpr c11
     clear c11
     (first | rw [c11b0] | (simp only [i64_w, i32_w]; rw [c11b0]) | skip)
     have H' := Aside0.mk H
     clear H
     have hnb12 := NB490_491.out
     have hnc12 := NB491_490.out
     have hcz13_0 : w6.cell? ⟨gb490, 0, none⟩ = some (.int .i64 a0_0) := (blk_cell BK490.out 0).trans rfl
     have hcz13_1 : w6.cell? ⟨gb490, 1, none⟩ = some (.slice A0_1 l0_1.length c0_1) := (blk_cell BK490.out 1).trans rfl
     have hfz13_0 := blk_frozen BK490.out 0
     have hfz13_1 := blk_frozen BK490.out 1
     go_wp2_with (first | ((with_reducible refine gate_callee (f := 38) rfl ?_); refine goesL_ (some 14) rfl rfl Try.func38 (c11_8) rfl #[.agg #[.int .i64 a0_0, .slice A0_1 l0_1.length c0_1], .int .i64 a1] rfl (G.ar) ?_; (with_reducible refine (spec_l1Knot.calls k a0_0 _ _ l0_1 a1 true _ ?side1 ?side2 A7.out).mono ?_); (case side1 => repeat (first | exact (Kd.C_below HR0_1.out HB.out) | (with_reducible refine Kd.C_alloc ?_ _) | (with_reducible refine Kd.C_drewN ?_ _) | (with_reducible refine Kd.C_drew ?_))); (case side2 => exact HC0_1.out); rintro e w14 ⟨rfl, hb⟩; refine ⟨_, rfl, ?_⟩; have n0_ := Aside0.mk (blk_below (g := gb490) (o := .cells #[.int .i64 a0_0, .slice A0_1 l0_1.length c0_1] 29 (0, 0)) (G.cb BK490.out) hb); have n1_ := Aside0.mk (blk_below (g := gb491) (o := .cells #[.int .i64 0, .slice none 0 0] 29 (0, 0)) (G.cb BK491.out) hb); have n2_ := Aside0.mk (below_step (G.cB HB.out) hb); clear BK490 BK491 HB; revert n0_ n1_ n2_; intro BK490 BK491 HB; (try clear hb); (try clear hb2); (try clear hk); (try clear hi); have hcz15_0 : w14.cell? ⟨gb490, 0, none⟩ = some (.int .i64 a0_0) := (blk_cell BK490.out 0).trans rfl; have hcz15_1 : w14.cell? ⟨gb490, 1, none⟩ = some (.slice A0_1 l0_1.length c0_1) := (blk_cell BK490.out 1).trans rfl; have hfz15_0 := blk_frozen BK490.out 0; have hfz15_1 := blk_frozen BK490.out 1) | (go_at_call 38; (with_reducible refine (spec_l1Knot.calls k a0_0 _ _ l0_1 a2 true _ ?side1 ?side2 A9.out).mono ?_); (case side1 => repeat (first | exact (Kd.C_below HR0_1.out HB.out) | (with_reducible refine Kd.C_alloc ?_ _) | (with_reducible refine Kd.C_drewN ?_ _) | (with_reducible refine Kd.C_drew ?_))); (case side2 => exact HC0_1.out); rintro e w16 ⟨rfl, hb⟩; have n0_ := Aside0.mk (blk_below (g := gb490) (o := .cells #[.int .i64 a0_0, .slice A0_1 l0_1.length c0_1] 29 (0, 0)) (G.cb BK490.out) hb); have n1_ := Aside0.mk (blk_below (g := gb491) (o := .cells #[.int .i64 0, .slice none 0 0] 29 (0, 0)) (G.cb BK491.out) hb); have n2_ := Aside0.mk (below_step (G.cB HB.out) hb); clear BK490 BK491 HB; revert n0_ n1_ n2_; intro BK490 BK491 HB; (try clear hb); (try clear hb2); (try clear hk); (try clear hi)))
     go_meet
     case rel => exact ⟨_, (true), (c11_6), H', ⟨by first | omega | exact Nat.le_refl _⟩, ⟨G.cb BK490.out⟩, ⟨G.cb BK491.out⟩, ⟨G.cB HB.out⟩⟩
    ·rw [if_neg c11] at H
     have c11b0 : (a1 == a2) = false := beq_eq_false_iff_ne.mpr c11
     have c11b1 : (a1 != a2) = true := bne_iff_ne.mpr c11
     (first | rw [c11b0] | (simp only [i64_w, i32_w]; rw [c11b0]) | skip)
     replace H := Option.bind_eq_some_iff.mp H
     obtain ⟨t494, A170, H⟩ := H
     replace H : (spec_NetAdd.j0 k a1 a2 t494 a0_0 l0_1) = some (r1, r2, r3) := H
     have A17 := Aside0.mk A170
     clear A170
     have H' := Aside0.mk H
     clear H
     have hnb18 := NB490_491.out
     have hnc18 := NB491_490.out
     have hcz19_0 : w6.cell? ⟨gb490, 0, none⟩ = some (.int .i64 a0_0) := (blk_cell BK490.out 0).trans rfl
     have hcz19_1 : w6.cell? ⟨gb490, 1, none⟩ = some (.slice A0_1 l0_1.length c0_1) := (blk_cell BK490.out 1).trans rfl
     have hfz19_0 := blk_frozen BK490.out 0
     have hfz19_1 := blk_frozen BK490.out 1
     go_wp2_with (first | ((with_reducible refine gate_callee (f := 38) rfl ?_); refine goesL_ (some 14) rfl rfl Try.func38 (c11_8) rfl #[.agg #[.int .i64 a0_0, .slice A0_1 l0_1.length c0_1], .int .i64 a1] rfl (G.ar) ?_; (with_reducible refine (spec_l1Knot.calls k a0_0 _ _ l0_1 a1 true _ ?side1 ?side2 A7.out).mono ?_); (case side1 => repeat (first | exact (Kd.C_below HR0_1.out HB.out) | (with_reducible refine Kd.C_alloc ?_ _) | (with_reducible refine Kd.C_drewN ?_ _) | (with_reducible refine Kd.C_drew ?_))); (case side2 => exact HC0_1.out); rintro e w20 ⟨rfl, hb⟩; refine ⟨_, rfl, ?_⟩; have n0_ := Aside0.mk (blk_below (g := gb490) (o := .cells #[.int .i64 a0_0, .slice A0_1 l0_1.length c0_1] 29 (0, 0)) (G.cb BK490.out) hb); have n1_ := Aside0.mk (blk_below (g := gb491) (o := .cells #[.int .i64 0, .slice none 0 0] 29 (0, 0)) (G.cb BK491.out) hb); have n2_ := Aside0.mk (below_step (G.cB HB.out) hb); clear BK490 BK491 HB; revert n0_ n1_ n2_; intro BK490 BK491 HB; (try clear hb); (try clear hb2); (try clear hk); (try clear hi); have hcz21_0 : w20.cell? ⟨gb490, 0, none⟩ = some (.int .i64 a0_0) := (blk_cell BK490.out 0).trans rfl; have hcz21_1 : w20.cell? ⟨gb490, 1, none⟩ = some (.slice A0_1 l0_1.length c0_1) := (blk_cell BK490.out 1).trans rfl; have hfz21_0 := blk_frozen BK490.out 0; have hfz21_1 := blk_frozen BK490.out 1) | (go_at_call 38; (with_reducible refine (spec_l1Knot.calls k a0_0 _ _ l0_1 a2 true _ ?side1 ?side2 A9.out).mono ?_); (case side1 => repeat (first | exact (Kd.C_below HR0_1.out HB.out) | (with_reducible refine Kd.C_alloc ?_ _) | (with_reducible refine Kd.C_drewN ?_ _) | (with_reducible refine Kd.C_drew ?_))); (case side2 => exact HC0_1.out); rintro e w22 ⟨rfl, hb⟩; have n0_ := Aside0.mk (blk_below (g := gb490) (o := .cells #[.int .i64 a0_0, .slice A0_1 l0_1.length c0_1] 29 (0, 0)) (G.cb BK490.out) hb); have n1_ := Aside0.mk (blk_below (g := gb491) (o := .cells #[.int .i64 0, .slice none 0 0] 29 (0, 0)) (G.cb BK491.out) hb); have n2_ := Aside0.mk (below_step (G.cB HB.out) hb); clear BK490 BK491 HB; revert n0_ n1_ n2_; intro BK490 BK491 HB; (try clear hb); (try clear hb2); (try clear hk); (try clear hi); have hcz23_0 : w22.cell? ⟨gb490, 0, none⟩ = some (.int .i64 a0_0) := (blk_cell BK490.out 0).trans rfl; have hcz23_1 : w22.cell? ⟨gb490, 1, none⟩ = some (.slice A0_1 l0_1.length c0_1) := (blk_cell BK490.out 1).trans rfl; have hfz23_0 := blk_frozen BK490.out 0; have hfz23_1 := blk_frozen BK490.out 1) | (go_at_call 67; (with_reducible refine (spec_NetHas.calls k a0_0 _ _ l0_1 a1 a2 t494 _ ?side1 ?side2 A17.out).mono ?_); (case side1 => repeat (first | exact (Kd.C_below HR0_1.out HB.out) | (with_reducible refine Kd.C_alloc ?_ _) | (with_reducible refine Kd.C_drewN ?_ _) | (with_reducible refine Kd.C_drew ?_))); (case side2 => exact HC0_1.out); rintro e w24 ⟨rfl, hb⟩; have n0_ := Aside0.mk (blk_below (g := gb490) (o := .cells #[.int .i64 a0_0, .slice A0_1 l0_1.length c0_1] 29 (0, 0)) (G.cb BK490.out) hb); have n1_ := Aside0.mk (blk_below (g := gb491) (o := .cells #[.int .i64 0, .slice none 0 0] 29 (0, 0)) (G.cb BK491.out) hb); have n2_ := Aside0.mk (below_step (G.cB HB.out) hb); clear BK490 BK491 HB; revert n0_ n1_ n2_; intro BK490 BK491 HB; (try clear hb); (try clear hb2); (try clear hk); (try clear hi)))
     go_meet
     case rel => exact ⟨_, (t494), (c11_6), H', ⟨by first | omega | exact Nat.le_refl _⟩, ⟨G.cb BK490.out⟩, ⟨G.cb BK491.out⟩, ⟨G.cB HB.out⟩⟩
   ·replace c10 := Bool.eq_false_iff.mpr c10
    subst c10
    have H1 : (spec_NetAdd.j0 k a1 a2 true a0_0 l0_1) = some (r1, r2, r3) := by rw [if_neg (show ¬ (false = true) by decide)] at H; exact H
    clear H
    have H := H1
    clear H1
    have H' := Aside0.mk H
    clear H
    have hnb25 := NB490_491.out
    have hnc25 := NB491_490.out
    have hcz26_0 : w6.cell? ⟨gb490, 0, none⟩ = some (.int .i64 a0_0) := (blk_cell BK490.out 0).trans rfl
    have hcz26_1 : w6.cell? ⟨gb490, 1, none⟩ = some (.slice A0_1 l0_1.length c0_1) := (blk_cell BK490.out 1).trans rfl
    have hfz26_0 := blk_frozen BK490.out 0
    have hfz26_1 := blk_frozen BK490.out 1
    go_wp2_with (first | ((with_reducible refine gate_callee (f := 38) rfl ?_); refine goesL_ (some 14) rfl rfl Try.func38 (c11_8) rfl #[.agg #[.int .i64 a0_0, .slice A0_1 l0_1.length c0_1], .int .i64 a1] rfl (G.ar) ?_; (with_reducible refine (spec_l1Knot.calls k a0_0 _ _ l0_1 a1 true _ ?side1 ?side2 A7.out).mono ?_); (case side1 => repeat (first | exact (Kd.C_below HR0_1.out HB.out) | (with_reducible refine Kd.C_alloc ?_ _) | (with_reducible refine Kd.C_drewN ?_ _) | (with_reducible refine Kd.C_drew ?_))); (case side2 => exact HC0_1.out); rintro e w27 ⟨rfl, hb⟩; refine ⟨_, rfl, ?_⟩; have n0_ := Aside0.mk (blk_below (g := gb490) (o := .cells #[.int .i64 a0_0, .slice A0_1 l0_1.length c0_1] 29 (0, 0)) (G.cb BK490.out) hb); have n1_ := Aside0.mk (blk_below (g := gb491) (o := .cells #[.int .i64 0, .slice none 0 0] 29 (0, 0)) (G.cb BK491.out) hb); have n2_ := Aside0.mk (below_step (G.cB HB.out) hb); clear BK490 BK491 HB; revert n0_ n1_ n2_; intro BK490 BK491 HB; (try clear hb); (try clear hb2); (try clear hk); (try clear hi); have hcz28_0 : w27.cell? ⟨gb490, 0, none⟩ = some (.int .i64 a0_0) := (blk_cell BK490.out 0).trans rfl; have hcz28_1 : w27.cell? ⟨gb490, 1, none⟩ = some (.slice A0_1 l0_1.length c0_1) := (blk_cell BK490.out 1).trans rfl; have hfz28_0 := blk_frozen BK490.out 0; have hfz28_1 := blk_frozen BK490.out 1) | (go_at_call 38; (with_reducible refine (spec_l1Knot.calls k a0_0 _ _ l0_1 a2 false _ ?side1 ?side2 A9.out).mono ?_); (case side1 => repeat (first | exact (Kd.C_below HR0_1.out HB.out) | (with_reducible refine Kd.C_alloc ?_ _) | (with_reducible refine Kd.C_drewN ?_ _) | (with_reducible refine Kd.C_drew ?_))); (case side2 => exact HC0_1.out); rintro e w29 ⟨rfl, hb⟩; have n0_ := Aside0.mk (blk_below (g := gb490) (o := .cells #[.int .i64 a0_0, .slice A0_1 l0_1.length c0_1] 29 (0, 0)) (G.cb BK490.out) hb); have n1_ := Aside0.mk (blk_below (g := gb491) (o := .cells #[.int .i64 0, .slice none 0 0] 29 (0, 0)) (G.cb BK491.out) hb); have n2_ := Aside0.mk (below_step (G.cB HB.out) hb); clear BK490 BK491 HB; revert n0_ n1_ n2_; intro BK490 BK491 HB; (try clear hb); (try clear hb2); (try clear hk); (try clear hi)))
    go_meet
    case rel => exact ⟨_, (true), (c11_6), H', ⟨by first | omega | exact Nat.le_refl _⟩, ⟨G.cb BK490.out⟩, ⟨G.cb BK491.out⟩, ⟨G.cB HB.out⟩⟩
  ·replace c8 := Bool.eq_false_iff.mpr c8
   subst c8
   have H1 : (spec_NetAdd.j0 k a1 a2 true a0_0 l0_1) = some (r1, r2, r3) := by rw [if_neg (show ¬ (false = true) by decide)] at H; exact H
   clear H
   have H := H1
   clear H1
   have H' := Aside0.mk H
   clear H
   have hnb30 := NB490_491.out
   have hnc30 := NB491_490.out
   have hcz31_0 : w6.cell? ⟨gb490, 0, none⟩ = some (.int .i64 a0_0) := (blk_cell BK490.out 0).trans rfl
   have hcz31_1 : w6.cell? ⟨gb490, 1, none⟩ = some (.slice A0_1 l0_1.length c0_1) := (blk_cell BK490.out 1).trans rfl
   have hfz31_0 := blk_frozen BK490.out 0
   have hfz31_1 := blk_frozen BK490.out 1
   go_wp2_with (first | ((with_reducible refine gate_callee (f := 38) rfl ?_); refine goesL_ (some 14) rfl rfl Try.func38 (c11_8) rfl #[.agg #[.int .i64 a0_0, .slice A0_1 l0_1.length c0_1], .int .i64 a1] rfl (G.ar) ?_; (with_reducible refine (spec_l1Knot.calls k a0_0 _ _ l0_1 a1 false _ ?side1 ?side2 A7.out).mono ?_); (case side1 => repeat (first | exact (Kd.C_below HR0_1.out HB.out) | (with_reducible refine Kd.C_alloc ?_ _) | (with_reducible refine Kd.C_drewN ?_ _) | (with_reducible refine Kd.C_drew ?_))); (case side2 => exact HC0_1.out); rintro e w32 ⟨rfl, hb⟩; refine ⟨_, rfl, ?_⟩; have n0_ := Aside0.mk (blk_below (g := gb490) (o := .cells #[.int .i64 a0_0, .slice A0_1 l0_1.length c0_1] 29 (0, 0)) (G.cb BK490.out) hb); have n1_ := Aside0.mk (blk_below (g := gb491) (o := .cells #[.int .i64 0, .slice none 0 0] 29 (0, 0)) (G.cb BK491.out) hb); have n2_ := Aside0.mk (below_step (G.cB HB.out) hb); clear BK490 BK491 HB; revert n0_ n1_ n2_; intro BK490 BK491 HB; (try clear hb); (try clear hb2); (try clear hk); (try clear hi)))
   go_meet
   case rel => exact ⟨_, (true), (c11_6), H', ⟨by first | omega | exact Nat.le_refl _⟩, ⟨G.cb BK490.out⟩, ⟨G.cb BK491.out⟩, ⟨G.cB HB.out⟩⟩
 case rest =>
  clear HC4
  (try clear c1); (try clear c2); (try clear p2); (try clear c3); (try clear c7); (try clear c8); (try clear c10); (try clear c11); (try clear c11b0); (try clear c11b1); (try clear c12); (try clear c18); (try clear c25); (try clear c30); (try clear hcz13_0); (try clear hcz13_1); (try clear hcz15_0); (try clear hcz15_1); (try clear hcz19_0); (try clear hcz19_1); (try clear hcz21_0); (try clear hcz21_1); (try clear hcz23_0); (try clear hcz23_1); (try clear hcz26_0); (try clear hcz26_1); (try clear hcz28_0); (try clear hcz28_1); (try clear hcz31_0); (try clear hcz31_1); (try clear hfz13_0); (try clear hfz13_1); (try clear hfz15_0); (try clear hfz15_1); (try clear hfz19_0); (try clear hfz19_1); (try clear hfz21_0); (try clear hfz21_1); (try clear hfz23_0); (try clear hfz23_1); (try clear hfz26_0); (try clear hfz26_1); (try clear hfz28_0); (try clear hfz28_1); (try clear hfz31_0); (try clear hfz31_1)
  obtain ⟨kq, x32_3, rfl, HA, HJ3, BK490, BK491, HB⟩ := hcut
  cases kq with
  | zero => exact absurd HA.out (by simp [spec_NetAdd.j0])
  | succ kj3 =>
   have H := HA.out
   clear HA
   simp only [spec_NetAdd.j0] at H
   by_cases c33 : x32_3 = true
   ·subst c33
    have H1 : (some (0, ([] : List (S63)), false)) = some (r1, r2, r3) := by rw [if_pos rfl] at H; exact H
    clear H
    have H := H1
    clear H1
    simp only [Option.some.injEq, Prod.mk.injEq] at H
    obtain ⟨rfl, rfl, rfl⟩ := H
    have hnb34 := NB491_490.out
    have hnc34 := NB490_491.out
    have hcz35_0 : wc.cell? ⟨gb491, 0, none⟩ = some (.int .i64 0) := (blk_cell BK491.out 0).trans rfl
    have hcz35_1 : wc.cell? ⟨gb491, 1, none⟩ = some (.slice none 0 0) := (blk_cell BK491.out 1).trans rfl
    have hfz35_0 := blk_frozen BK491.out 0
    have hfz35_1 := blk_frozen BK491.out 1
    go_wp2
    refine bodyPost_ret (results_ct rfl _ _ gb491 29 #[.int .i64 0, .slice none 0 0] (0, 0) _ rfl (by (with_reducible repeat (first | refine blk_drewN ?_ _ | refine blk_drew ?_ | refine blk_alloc ?_ _)); refine blk_put (cs := #[.int .i64 0, .slice none 0 0]) ?_ 1 _ rfl; (with_reducible repeat (first | refine blk_drewN ?_ _ | refine blk_drew ?_ | refine blk_alloc ?_ _)); refine blk_put (cs := #[.int .i64 0, .slice none 0 0]) ?_ 0 _ rfl; (with_reducible repeat (first | refine blk_drewN ?_ _ | refine blk_drew ?_ | refine blk_alloc ?_ _)); exact BK491.out) Try.underlying29 rfl (c11_8)) rfl ?_
    exact ⟨_, by first | rfl | (simp [errW_none, errW_some] <;> rfl) | (simp [*, errW_none, errW_some] <;> rfl), by first | exact Kd.R_nil _ _ _ _ _ | exact Kd.N_nil _ _ _ _ _ | exact Kd.V_nil _ _ _ _ _ | exact Kd.Q_nil _ _ _ _ _ | exact Kd.S_nil _ _ _ _ _, G.cB HB.out⟩
   ·replace c33 := Bool.eq_false_iff.mpr c33
    subst c33
    have H1 : ((spec_l1Tie.f a1 a2).bind fun bt496 => (spec_NetAdd.l0 kj3 false 0 a0_0 l0_1 a0_0 ([] : List (S63)) bt496.1 bt496.2)) = some (r1, r2, r3) := by rw [if_neg (show ¬ (false = true) by decide)] at H; exact H
    clear H
    have H := H1
    clear H1
    replace H := Option.bind_eq_some_iff.mp H
    obtain ⟨⟨t496, t497⟩, A360, H⟩ := H
    replace H : (spec_NetAdd.l0 kj3 false 0 a0_0 l0_1 a0_0 ([] : List (S63)) t496 t497) = some (r1, r2, r3) := H
    have A36 := Aside0.mk A360
    clear A360
    have H' := Aside0.mk H
    clear H
    have hnb37 := NB490_491.out
    have hnc37 := NB491_490.out
    have hcz38_0 : wc.cell? ⟨gb490, 0, none⟩ = some (.int .i64 a0_0) := (blk_cell BK490.out 0).trans rfl
    have hcz38_1 : wc.cell? ⟨gb490, 1, none⟩ = some (.slice A0_1 l0_1.length c0_1) := (blk_cell BK490.out 1).trans rfl
    have hfz38_0 := blk_frozen BK490.out 0
    have hfz38_1 := blk_frozen BK490.out 1
    go_wp2_with (first | ((with_reducible refine gate_dst (N := 8) rfl ?_); refine G.be 8 #[.int .i64 0, .slice none 0 0] 29 ?_; intro gb495 hg w39 hbox hb; have n0_ := Aside0.mk (blk_below (g := gb490) (o := .cells #[.int .i64 a0_0, .slice A0_1 l0_1.length c0_1] 29 (0, 0)) (G.cb BK490.out) hb); have n1_ := Aside0.mk (blk_below (g := gb491) (o := .cells #[.int .i64 0, .slice none 0 0] 29 (0, 0)) (G.cb BK491.out) hb); have n2_ := Aside0.mk (below_step (G.cB HB.out) hb); have n3_ := Aside0.mk (hbox); have n4_ := Aside0.mk ((c11_7 : w.heap.size ≤ gb495)); have n5_ := Aside0.mk ((c11_7 : w.heap.size ≤ gb495)); have n6_ := Aside0.mk ((c11_4 : gb490 ≠ gb495)); have n7_ := Aside0.mk ((c11_5 : gb495 ≠ gb490)); have n8_ := Aside0.mk ((by rw [hg]; exact Nat.ne_of_lt (blk_lt (g := gb491) (o := .cells #[.int .i64 0, .slice none 0 0] 29 (0, 0)) (G.cb BK491.out)) : gb491 ≠ gb495)); have n9_ := Aside0.mk ((by rw [hg]; exact Nat.ne_of_gt (blk_lt (g := gb491) (o := .cells #[.int .i64 0, .slice none 0 0] 29 (0, 0)) (G.cb BK491.out)) : gb495 ≠ gb491)); clear BK490 BK491 HB; revert n0_ n1_ n2_ n3_ n4_ n5_ n6_ n7_ n8_ n9_; intro BK490 BK491 HB BK495 GW495 GE495 NB490_495 NB495_490 NB491_495 NB495_491; clear hb hbox hg; have hnb40 := NB495_490.out; have hnc40 := NB490_495.out; have hnb41 := NB495_491.out; have hnc41 := NB491_495.out; have hcz42_0 : w39.cell? ⟨gb495, 0, none⟩ = some (.int .i64 0) := (blk_cell BK495.out 0).trans rfl; have hcz42_1 : w39.cell? ⟨gb495, 1, none⟩ = some (.slice none 0 0) := (blk_cell BK495.out 1).trans rfl; have hfz42_0 := blk_frozen BK495.out 0; have hfz42_1 := blk_frozen BK495.out 1) | ((with_reducible refine gate_callee (f := 68) rfl ?_); refine goesL_ (some 39) rfl rfl Try.func68 (c11_8) rfl #[.int .i64 a1, .int .i64 a2] rfl (G.ar) ?_; (with_reducible refine (spec_l1Tie.calls a1 a2 t496 t497 _ A36.out).mono ?_); rintro e w43 ⟨rfl, hb⟩; refine ⟨_, rfl, ?_⟩; have n0_ := Aside0.mk (blk_below (g := gb490) (o := .cells #[.int .i64 a0_0, .slice A0_1 l0_1.length c0_1] 29 (0, 0)) (by (with_reducible repeat (first | refine blk_drewN ?_ _ | refine blk_drew ?_ | refine blk_alloc ?_ _)); refine blk_far ?_ NB490_495.out _; (with_reducible repeat (first | refine blk_drewN ?_ _ | refine blk_drew ?_ | refine blk_alloc ?_ _)); refine blk_far ?_ NB490_495.out _; (with_reducible repeat (first | refine blk_drewN ?_ _ | refine blk_drew ?_ | refine blk_alloc ?_ _)); exact BK490.out) hb); have n1_ := Aside0.mk (blk_below (g := gb491) (o := .cells #[.int .i64 0, .slice none 0 0] 29 (0, 0)) (by (with_reducible repeat (first | refine blk_drewN ?_ _ | refine blk_drew ?_ | refine blk_alloc ?_ _)); refine blk_far ?_ NB491_495.out _; (with_reducible repeat (first | refine blk_drewN ?_ _ | refine blk_drew ?_ | refine blk_alloc ?_ _)); refine blk_far ?_ NB491_495.out _; (with_reducible repeat (first | refine blk_drewN ?_ _ | refine blk_drew ?_ | refine blk_alloc ?_ _)); exact BK491.out) hb); have n2_ := Aside0.mk (blk_below (g := gb495) (o := .cells #[.int .i64 a0_0, .slice none 0 0] 29 (0, 0)) (by (with_reducible repeat (first | refine blk_drewN ?_ _ | refine blk_drew ?_ | refine blk_alloc ?_ _)); refine blk_put (cs := #[.int .i64 a0_0, .slice none 0 0]) ?_ 1 _ rfl; (with_reducible repeat (first | refine blk_drewN ?_ _ | refine blk_drew ?_ | refine blk_alloc ?_ _)); refine blk_put (cs := #[.int .i64 0, .slice none 0 0]) ?_ 0 _ rfl; (with_reducible repeat (first | refine blk_drewN ?_ _ | refine blk_drew ?_ | refine blk_alloc ?_ _)); exact BK495.out) hb); have n3_ := Aside0.mk (below_step (G.cB HB.out) hb); clear BK490 BK491 BK495 HB; revert n0_ n1_ n2_ n3_; intro BK490 BK491 BK495 HB; (try clear hb); (try clear hb2); (try clear hk); (try clear hi)) | ((with_reducible refine gate_dst (N := 9) rfl ?_); refine G.be 9 #[.int .i64 0, .int .i64 0] 63 ?_; intro gb498 hg w44 hbox hb; have n0_ := Aside0.mk (blk_below (g := gb490) (o := .cells #[.int .i64 a0_0, .slice A0_1 l0_1.length c0_1] 29 (0, 0)) (G.cb BK490.out) hb); have n1_ := Aside0.mk (blk_below (g := gb491) (o := .cells #[.int .i64 0, .slice none 0 0] 29 (0, 0)) (G.cb BK491.out) hb); have n2_ := Aside0.mk (blk_below (g := gb495) (o := .cells #[.int .i64 a0_0, .slice none 0 0] 29 (0, 0)) (G.cb BK495.out) hb); have n3_ := Aside0.mk (below_step (G.cB HB.out) hb); have n4_ := Aside0.mk (hbox); have n5_ := Aside0.mk ((c11_7 : w.heap.size ≤ gb498)); have n6_ := Aside0.mk ((c11_7 : w.heap.size ≤ gb498)); have n7_ := Aside0.mk ((c11_4 : gb490 ≠ gb498)); have n8_ := Aside0.mk ((c11_5 : gb498 ≠ gb490)); have n9_ := Aside0.mk ((by rw [hg]; exact Nat.ne_of_lt (blk_lt (g := gb491) (o := .cells #[.int .i64 0, .slice none 0 0] 29 (0, 0)) (G.cb BK491.out)) : gb491 ≠ gb498)); have n10_ := Aside0.mk ((by rw [hg]; exact Nat.ne_of_gt (blk_lt (g := gb491) (o := .cells #[.int .i64 0, .slice none 0 0] 29 (0, 0)) (G.cb BK491.out)) : gb498 ≠ gb491)); have n11_ := Aside0.mk ((by rw [hg]; exact Nat.ne_of_lt (blk_lt (g := gb495) (o := .cells #[.int .i64 a0_0, .slice none 0 0] 29 (0, 0)) (G.cb BK495.out)) : gb495 ≠ gb498)); have n12_ := Aside0.mk ((by rw [hg]; exact Nat.ne_of_gt (blk_lt (g := gb495) (o := .cells #[.int .i64 a0_0, .slice none 0 0] 29 (0, 0)) (G.cb BK495.out)) : gb498 ≠ gb495)); clear BK490 BK491 BK495 HB; revert n0_ n1_ n2_ n3_ n4_ n5_ n6_ n7_ n8_ n9_ n10_ n11_ n12_; intro BK490 BK491 BK495 HB BK498 GW498 GE498 NB490_498 NB498_490 NB491_498 NB498_491 NB495_498 NB498_495; clear hb hbox hg; have hnb45 := NB498_490.out; have hnc45 := NB490_498.out; have hnb46 := NB498_491.out; have hnc46 := NB491_498.out; have hnb47 := NB498_495.out; have hnc47 := NB495_498.out; have hcz48_0 : w44.cell? ⟨gb498, 0, none⟩ = some (.int .i64 0) := (blk_cell BK498.out 0).trans rfl; have hcz48_1 : w44.cell? ⟨gb498, 1, none⟩ = some (.int .i64 0) := (blk_cell BK498.out 1).trans rfl; have hfz48_0 := blk_frozen BK498.out 0; have hfz48_1 := blk_frozen BK498.out 1))
    go_loopg [10, 11] kj3 (fun kq v10 v11 w' => ∃ (x10_2 : Bool) (x11_2 : Int) (x496001_2 : List (S63)) (u496001 : Value), v10 = .bool x10_2 ∧ v11 = .int .i64 x11_2 ∧ Aside0 (spec_NetAdd.l0 kq x10_2 x11_2 a0_0 l0_1 a0_0 x496001_2 t496 t497 = some (r1, r2, r3)) ∧ Aside0 (kq ≤ kj3) ∧ Aside0 (Kd.R k63 63 w' w.heap.size (fun k_ => k_ ≠ gb498) u496001 x496001_2) ∧ Aside0 (w'.heap[gb490]? = some (.cells #[.int .i64 a0_0, (.slice A0_1 l0_1.length c0_1)] 29 (0, 0))) ∧ Aside0 (w'.heap[gb491]? = some (.cells #[.int .i64 0, (.slice none 0 0)] 29 (0, 0))) ∧ Aside0 (w'.heap[gb495]? = some (.cells #[.int .i64 a0_0, u496001] 29 (0, 0))) ∧ Aside0 (w'.heap[gb498]? = some (.cells #[.int .i64 t496, .int .i64 t497] 63 (0, 0))) ∧ Aside0 (Below w.heap.size w w'))
    case atStart => exact ⟨(false), (0), (([] : List (S63))), (.slice none 0 0), (c11_6), (c11_6), H', ⟨Nat.le_refl _⟩, ⟨by first | exact Kd.R_nil _ _ _ _ _ | exact Kd.N_nil _ _ _ _ _ | exact Kd.V_nil _ _ _ _ _ | exact Kd.Q_nil _ _ _ _ _ | exact Kd.S_nil _ _ _ _ _⟩, ⟨by (with_reducible repeat (first | refine blk_drewN ?_ _ | refine blk_drew ?_ | refine blk_alloc ?_ _)); refine blk_far ?_ NB490_498.out _; (with_reducible repeat (first | refine blk_drewN ?_ _ | refine blk_drew ?_ | refine blk_alloc ?_ _)); refine blk_far ?_ NB490_498.out _; (with_reducible repeat (first | refine blk_drewN ?_ _ | refine blk_drew ?_ | refine blk_alloc ?_ _)); exact BK490.out⟩, ⟨by (with_reducible repeat (first | refine blk_drewN ?_ _ | refine blk_drew ?_ | refine blk_alloc ?_ _)); refine blk_far ?_ NB491_498.out _; (with_reducible repeat (first | refine blk_drewN ?_ _ | refine blk_drew ?_ | refine blk_alloc ?_ _)); refine blk_far ?_ NB491_498.out _; (with_reducible repeat (first | refine blk_drewN ?_ _ | refine blk_drew ?_ | refine blk_alloc ?_ _)); exact BK491.out⟩, ⟨by (with_reducible repeat (first | refine blk_drewN ?_ _ | refine blk_drew ?_ | refine blk_alloc ?_ _)); refine blk_far ?_ NB495_498.out _; (with_reducible repeat (first | refine blk_drewN ?_ _ | refine blk_drew ?_ | refine blk_alloc ?_ _)); refine blk_far ?_ NB495_498.out _; (with_reducible repeat (first | refine blk_drewN ?_ _ | refine blk_drew ?_ | refine blk_alloc ?_ _)); exact BK495.out⟩, ⟨by (with_reducible repeat (first | refine blk_drewN ?_ _ | refine blk_drew ?_ | refine blk_alloc ?_ _)); refine blk_put (cs := #[.int .i64 t496, .int .i64 0]) ?_ 1 _ rfl; (with_reducible repeat (first | refine blk_drewN ?_ _ | refine blk_drew ?_ | refine blk_alloc ?_ _)); refine blk_put (cs := #[.int .i64 0, .int .i64 0]) ?_ 0 _ rfl; (with_reducible repeat (first | refine blk_drewN ?_ _ | refine blk_drew ?_ | refine blk_alloc ?_ _)); exact BK498.out⟩, ⟨G.cB HB.out⟩⟩
    case round =>
     clear H'
     (try clear c1); (try clear c2); (try clear p2); (try clear c3); (try clear c4); (try clear c6); (try clear c7); (try clear c8); (try clear c10); (try clear c11); (try clear c11b0); (try clear c11b1); (try clear c12); (try clear c18); (try clear c25); (try clear c30); (try clear c33); (try clear c34); (try clear c37); (try clear c38); (try clear c40); (try clear c41); (try clear c45); (try clear c46); (try clear c47); (try clear hcz13_0); (try clear hcz13_1); (try clear hcz15_0); (try clear hcz15_1); (try clear hcz19_0); (try clear hcz19_1); (try clear hcz21_0); (try clear hcz21_1); (try clear hcz23_0); (try clear hcz23_1); (try clear hcz26_0); (try clear hcz26_1); (try clear hcz28_0); (try clear hcz28_1); (try clear hcz31_0); (try clear hcz31_1); (try clear hcz35_0); (try clear hcz35_1); (try clear hcz38_0); (try clear hcz38_1); (try clear hcz42_0); (try clear hcz42_1); (try clear hcz48_0); (try clear hcz48_1); (try clear hfz13_0); (try clear hfz13_1); (try clear hfz15_0); (try clear hfz15_1); (try clear hfz19_0); (try clear hfz19_1); (try clear hfz21_0); (try clear hfz21_1); (try clear hfz23_0); (try clear hfz23_1); (try clear hfz26_0); (try clear hfz26_1); (try clear hfz28_0); (try clear hfz28_1); (try clear hfz31_0); (try clear hfz31_1); (try clear hfz35_0); (try clear hfz35_1); (try clear hfz38_0); (try clear hfz38_1); (try clear hfz42_0); (try clear hfz42_1); (try clear hfz48_0); (try clear hfz48_1); (try clear p2)
     obtain ⟨x10_2, x11_2, x496001_2, u496001, rfl, rfl, HA, HK2, HO_496001, BK490, BK491, BK495, BK498, HB⟩ := hrel
     cases gk with
     | zero => exact absurd HA.out (by simp [spec_NetAdd.l0])
     | succ k2 =>
      have H := HA.out
      clear HA
      simp only [spec_NetAdd.l0] at H
      by_cases c49 : x11_2 < (l0_1.length : Int)
      ·rw [if_pos c49] at H
       have c49b0 : decide (x11_2 < (l0_1.length : Int)) = true := decide_eq_true c49
       clear c49
       by_cases c50 : x10_2 = true
       ·subst c50
        have H1 : (if 0 ≤ x11_2 then (if x496001_2.length < 8796093022208 then (spec_NetAdd.l0 k2 true (wrap64 (x11_2 + 1)) a0_0 l0_1 a0_0 (x496001_2 ++ [(⟨(rd_T63 l0_1 x11_2).f0, (rd_T63 l0_1 x11_2).f1⟩ : S63)]) t496 t497) else (none)) else (none)) = some (r1, r2, r3) := by rw [if_pos rfl] at H; exact H
        clear H
        have H := H1
        clear H1
        by_cases c51 : 0 ≤ x11_2
        ·rw [if_pos c51] at H
         have c51b0 : decide (0 ≤ x11_2) = true := decide_eq_true c51
         clear c51
         by_cases c52 : x496001_2.length < 8796093022208
         ·rw [if_pos c52] at H
          have LMc52 := Aside0.mk c52
          clear c52
          obtain ⟨y500, hy500⟩ : ∃ y_ : List (S63), y_ = (x496001_2 ++ [(⟨(rd_T63 l0_1 x11_2).f0, (rd_T63 l0_1 x11_2).f1⟩ : S63)]) := ⟨_, rfl⟩
          replace H : (spec_NetAdd.l0 k2 true (wrap64 (x11_2 + 1)) a0_0 l0_1 a0_0 y500 t496 t497) = some (r1, r2, r3) := by first | (rw [hy500]; with_reducible exact H) | (have H2_ := (Option.bind_some _ _).symm.trans H; rw [hy500]; with_reducible exact H2_) | (have H2_ := (Option.bind_some _ _).symm.trans H; with_reducible exact H2_) | with_reducible exact H | (rw [hy500]; exact H) | exact H
          have Ny500 := Aside0.mk hy500
          clear hy500
          have H' := Aside0.mk H
          clear H
          have hnb53 := NB490_491.out
          have hnc53 := NB491_490.out
          have hnb54 := NB490_495.out
          have hnc54 := NB495_490.out
          have hnb55 := NB490_498.out
          have hnc55 := NB498_490.out
          have hcz56_0 : wr.cell? ⟨gb490, 0, none⟩ = some (.int .i64 a0_0) := (blk_cell BK490.out 0).trans rfl
          have hcz56_1 : wr.cell? ⟨gb490, 1, none⟩ = some (.slice A0_1 l0_1.length c0_1) := (blk_cell BK490.out 1).trans rfl
          have hfz56_0 := blk_frozen BK490.out 0
          have hfz56_1 := blk_frozen BK490.out 1
          try go_wp2
          have n0_ := Aside0.mk (Kd.R_drew HO_496001.out)
          have n1_ := Aside0.mk (blk_drew BK490.out)
          have n2_ := Aside0.mk (blk_drew BK491.out)
          have n3_ := Aside0.mk (blk_drew BK495.out)
          have n4_ := Aside0.mk (blk_drew BK498.out)
          have n5_ := Aside0.mk (below_drew1 HB.out)
          clear HO_496001 BK490 BK491 BK495 BK498 HB
          revert n0_ n1_ n2_ n3_ n4_ n5_
          intro HO_496001 BK490 BK491 BK495 BK498 HB
          refine start_ (n := 11) (S := fun w' => True) (ds := []) (G.fl 11 0) (c11_8) rfl (c11_8) trivial (fun hHeld => ?_); refine with_tabW spec_NetAdd.tab9 spec_NetAdd.bits9 (fun HT_ HW_ => ?_)
          generalize wr.drew = w57 at HO_496001 BK490 BK491 BK495 BK498 HB hHeld ⊢
          refine G.pu 0 (some 47) (G.fl 11 1) ?_
          refine G.pu 1 (some 48) (G.fl 11 3) ?_
          refine G.pu 2 (some 49) (G.fl 11 7) ?_
          refine G.pf 3 (some 50) (G.fl 11 15) ?_
          refine G.pf 4 (some 51) (G.fl 11 31) ?_
          refine G.pf 5 (some 52) (G.fl 11 63) ?_
          refine G.pf 6 (some 53) (G.fl 11 127) ?_
          refine G.pf 7 (some 54) (G.fl 11 255) ?_
          refine G.pf 8 (some 55) (G.fl 11 511) ?_
          refine G.pf 9 (some 56) (G.fl 11 1023) ?_
          refine G.pu 10 (some 57) (G.fl 11 2047) ?_
          refine done_ (done_of HT_.out (c11_8)) ?_
          try go_wp2
          have n0_ := Aside0.mk (Kd.R_drew HO_496001.out)
          have n1_ := Aside0.mk (blk_drew BK490.out)
          have n2_ := Aside0.mk (blk_drew BK491.out)
          have n3_ := Aside0.mk (blk_drew BK495.out)
          have n4_ := Aside0.mk (blk_drew BK498.out)
          have n5_ := Aside0.mk (below_drew1 HB.out)
          clear HO_496001 BK490 BK491 BK495 BK498 HB
          revert n0_ n1_ n2_ n3_ n4_ n5_
          intro HO_496001 BK490 BK491 BK495 BK498 HB
          have p499 : 0 ≤ (x11_2 : Int) := of_decide_eq_true (G.asm)
          have q499 : x11_2 < (l0_1.length : Int) := of_decide_eq_true (G.asm)
          obtain ⟨ad499, e499, hx499_0, hx499_1⟩ := at_T63 HR0_1.out x11_2 p499 q499
          have hw499_1 := hx499_1
          have hw499_0 := hx499_0
          cases e499
          replace hx499_0 := (HB.out.cell (World.block_lt_of_cell? w _ hx499_0)).trans hx499_0
          replace hx499_1 := (HB.out.cell (World.block_lt_of_cell? w _ hx499_1)).trans hx499_1
          replace p499 := eq_true p499
          replace q499 := eq_true q499
          refine start_ (n := 11) (S := fun w' => w'.cell? ⟨gb495, 0, none⟩ = some (.int .i64 a0_0) ∧ w'.cell? ⟨gb495, 1, none⟩ = some (u496001) ∧ w'.cell? ⟨gb490, 0, none⟩ = some (.int .i64 a0_0) ∧ w'.cell? ⟨gb490, 1, none⟩ = some (.slice (some ad499) l0_1.length c0_1) ∧ w'.cell? (ad499.add ((x11_2).toNat * 2)) = some (.int .i64 ((rd_T63 l0_1 x11_2).f0)) ∧ w'.cell? ⟨(ad499.add ((x11_2).toNat * 2)).block, (ad499.add ((x11_2).toNat * 2)).off + 1, none⟩ = some (.int .i64 ((rd_T63 l0_1 x11_2).f1))) (ds := [10]) (G.fl 11 0) (c11_8) rfl (c11_8) ⟨(blk_cell BK495.out 0).trans rfl, (blk_cell BK495.out 1).trans rfl, (blk_cell BK490.out 0).trans rfl, (blk_cell BK490.out 1).trans rfl, ((HB.out.cell (World.block_lt_of_cell? w _ hw499_0)).trans hw499_0), ((HB.out.cell (World.block_lt_of_cell? w _ hw499_1)).trans hw499_1)⟩ (fun hHeld => ?_); refine with_tabW spec_NetAdd.tab12 spec_NetAdd.bits12 (fun HT_ HW_ => ?_)
          generalize w57.drew = w58 at HO_496001 BK490 BK491 BK495 BK498 HB hx499_0 hx499_1 hHeld ⊢
          refine G.pu 0 (some 64) (G.fl 11 1) ?_
          refine G.pu 2 (some 66) (G.fl 11 5) ?_
          refine G.pu 4 (some 68) (G.fl 11 21) ?_
          refine G.ta6 1 (some 65) (G.fl 11 23) ?_
          refine G.ta6 3 (some 67) (G.fl 11 31) ?_
          refine G.pu 5 (some 69) (G.fl 11 63) ?_
          refine G.ta6 6 (some 70) (G.fl 11 127) ?_
          refine one_ (i := 7) (N := some 71) (G.fl 11 255) rfl rfl (one_of HT_.out (c11_8)) (by decide) (fun K hK => ?_)
          refine value_ (w1 := ?_) (v := ?_) (by rfl) rfl ?_ ?_
          rotate_left 2
          ·go_simp
           constructor
           ·rfl
           ·rfl
          refine hK.out _ _ ⟨(blk_cell (blk_alloc BK495.out _) 0).trans rfl, (blk_cell (blk_alloc BK495.out _) 1).trans rfl, (blk_cell (blk_alloc BK490.out _) 0).trans rfl, (blk_cell (blk_alloc BK490.out _) 1).trans rfl, (World.cell?_alloc_lt _ _ _ (World.block_lt_of_cell? _ _ (((HB.out.cell (World.block_lt_of_cell? w _ hw499_0)).trans hw499_0)))).trans (((HB.out.cell (World.block_lt_of_cell? w _ hw499_0)).trans hw499_0)), (World.cell?_alloc_lt _ _ _ (World.block_lt_of_cell? _ _ (((HB.out.cell (World.block_lt_of_cell? w _ hw499_1)).trans hw499_1)))).trans (((HB.out.cell (World.block_lt_of_cell? w _ hw499_1)).trans hw499_1))⟩ (fun hHeld => ?_)
          clear hK K
          refine G.no (some 71) ?_
          refine one_ (i := 8) (N := some 72) (G.fl 11 511) rfl rfl (one_of HT_.out (c11_8)) (by decide) (fun K hK => ?_)
          refine Kd.R_append_step k63 (w0 := w) w.heap.size (by rfl) (.tmp 65) (.tmp 71) 27 63 (.agg #[(.int .i64 0), (.int .i64 0)]) 16 rfl Try.underlying27 info63 rfl (by decide) (by omega) u496001 x496001_2 (⟨(rd_T63 l0_1 x11_2).f0, (rd_T63 l0_1 x11_2).f1⟩ : S63) [.int .i64 ((rd_T63 l0_1 x11_2).f0), .int .i64 ((rd_T63 l0_1 x11_2).f1)] (fun k_ => k_ ≠ gb498) (fun _ => False) rfl rfl ?aP (fun _ hk => hk.elim) ?aF ?aO ?aB ?aS ?aL ?_
          (case aP => exact k63_mkM _ _ _ (⟨(rd_T63 l0_1 x11_2).f0, (rd_T63 l0_1 x11_2).f1⟩ : S63))
          (case aB => exact (G.cB HB.out))
          (case aF => exact (fun k_ hk => Kd.freshB (g := gb498) (o := .cells #[.int .i64 t496, .int .i64 t497] 63 (0, 0)) (G.cb BK498.out) k_ hk))
          (case aO => exact (G.cR HO_496001.out))
          (case aS => exact (below_size (G.cB HB.out)))
          (case aL => have := LMc52.out; omega)
          intro v501 w59 ho hb hg hat
          rw [← Ny500.out] at ho
          have n0_ := Aside0.mk (blk_grown (g := gb490) (o := .cells #[.int .i64 a0_0, .slice (some ad499) l0_1.length c0_1] 29 (0, 0)) (G.cb BK490.out) hg (Kd.R_ne HO_496001.out BK490.out (by decide)))
          have n1_ := Aside0.mk (blk_grown (g := gb491) (o := .cells #[.int .i64 0, .slice none 0 0] 29 (0, 0)) (G.cb BK491.out) hg (Kd.R_ne HO_496001.out BK491.out (by decide)))
          have n2_ := Aside0.mk (blk_grown (g := gb495) (o := .cells #[.int .i64 a0_0, u496001] 29 (0, 0)) (G.cb BK495.out) hg (Kd.R_ne HO_496001.out BK495.out (by decide)))
          have n3_ := Aside0.mk (blk_grown (g := gb498) (o := .cells #[.int .i64 t496, .int .i64 t497] 63 (0, 0)) (G.cb BK498.out) hg (Kd.R_away HO_496001.out (fun _ hk => hk)))
          have n4_ := Aside0.mk (hb)
          have n5_ := Aside0.mk (ho)
          clear BK490 BK491 BK495 BK498 HB HO_496001
          revert n0_ n1_ n2_ n3_ n4_ n5_
          intro BK490 BK491 BK495 BK498 HB HO502
          clear ho hb hg hat
          obtain ⟨Ao60, co60, eo60⟩ := Kd.R_slice HO502.out
          (first | subst eo60 | (injection eo60 with f1_ f2_ f3_; have f4_ := f1_.symm; have f5_ := f3_.symm; clear f1_ f2_ f3_; subst f4_; subst f5_))
          refine hK.out _ _ ⟨(blk_cell BK495.out 0).trans rfl, (blk_cell BK495.out 1).trans rfl, (blk_cell BK490.out 0).trans rfl, (blk_cell BK490.out 1).trans rfl, ((HB.out.cell (World.block_lt_of_cell? w _ hw499_0)).trans hw499_0), ((HB.out.cell (World.block_lt_of_cell? w _ hw499_1)).trans hw499_1)⟩ (fun hHeld => ?_)
          clear hK K
          refine G.no (some 72) ?_
          refine G.pu 9 (some 73) (G.fl 11 1023) ?_
          refine last_ (i := 10) (N := none) (G.fl 11 2047) rfl rfl (one_of HT_.out (c11_8)) (by decide) (fun K hK => ?_)
          have hs61 : w59.cell? ⟨gb495, 1, none⟩ = some (u496001) := (blk_cell BK495.out 1).trans rfl
          have hfs61 := blk_frozen BK495.out 1
          have hns61_0 := NB490_495.out
          have hns61_1 := NB491_495.out
          have hns61_3 := NB498_495.out
          have hms61_0 := NB495_490.out
          have hms61_1 := NB495_491.out
          have hms61_3 := NB495_498.out
          refine skip_ (w1 := ?_) (by rfl) rfl ?_ ?_
          rotate_left
          ·go_simp
           rfl
          refine hK.out _ _ ?_
          clear hK K
          refine done_ (done_of HT_.out (c11_8)) ?_
          try go_wp2
          go_roundg k2
          case measure => have := HJ3.out; have := HK2.out; omega
          case rel => exact ⟨(true), (wrap64 (x11_2 + 1)), (y500), (.slice Ao60 y500.length co60), (c11_6), (c11_6), H', ⟨by have := HJ3.out; have := HK2.out; omega⟩, ⟨by (with_reducible repeat (first | apply Kd.R_alloc | apply Kd.R_drewN | apply Kd.R_drew)); exact Kd.R_mono (Kd.R_far (p := ⟨gb495, 1, none⟩) (Kd.R_types HO502.out BK495.out (by decide)) (fun _ hk => hk.2) (.slice Ao60 y500.length co60)) (fun _ hk => hk.1)⟩, ⟨c11_1⟩, ⟨c11_2⟩, ⟨c11_0⟩, ⟨c11_3⟩, ⟨G.cB HB.out⟩⟩
         ·rw [if_neg c52] at H
          exact absurd H (by simp)
        ·rw [if_neg c51] at H
         exact absurd H (by simp)
       ·replace c50 := Bool.eq_false_iff.mpr c50
        subst c50
        have H1 : (if 0 ≤ x11_2 then ((spec_l1Less.f t496 t497 ((rd_T63 l0_1 x11_2).f0) ((rd_T63 l0_1 x11_2).f1)).bind fun t504 => (if t504 = true then (if x496001_2.length < 8796093022208 then ((some (x496001_2 ++ [(⟨t496, t497⟩ : S63)] : List (S63))).bind fun y505 => (if y505.length < 8796093022208 then (spec_NetAdd.l0 k2 true (wrap64 (x11_2 + 1)) a0_0 l0_1 a0_0 (y505 ++ [(⟨(rd_T63 l0_1 x11_2).f0, (rd_T63 l0_1 x11_2).f1⟩ : S63)]) t496 t497) else (none))) else (none)) else (if x496001_2.length < 8796093022208 then (spec_NetAdd.l0 k2 false (wrap64 (x11_2 + 1)) a0_0 l0_1 a0_0 (x496001_2 ++ [(⟨(rd_T63 l0_1 x11_2).f0, (rd_T63 l0_1 x11_2).f1⟩ : S63)]) t496 t497) else (none)))) else (none)) = some (r1, r2, r3) := by rw [if_neg (show ¬ (false = true) by decide)] at H; exact H
        clear H
        have H := H1
        clear H1
        by_cases c62 : 0 ≤ x11_2
        ·rw [if_pos c62] at H
         have c62b0 : decide (0 ≤ x11_2) = true := decide_eq_true c62
         clear c62
         replace H := Option.bind_eq_some_iff.mp H
         obtain ⟨t504, A630, H⟩ := H
         replace H : (if t504 = true then (if x496001_2.length < 8796093022208 then ((some (x496001_2 ++ [(⟨t496, t497⟩ : S63)] : List (S63))).bind fun y505 => (if y505.length < 8796093022208 then (spec_NetAdd.l0 k2 true (wrap64 (x11_2 + 1)) a0_0 l0_1 a0_0 (y505 ++ [(⟨(rd_T63 l0_1 x11_2).f0, (rd_T63 l0_1 x11_2).f1⟩ : S63)]) t496 t497) else (none))) else (none)) else (if x496001_2.length < 8796093022208 then (spec_NetAdd.l0 k2 false (wrap64 (x11_2 + 1)) a0_0 l0_1 a0_0 (x496001_2 ++ [(⟨(rd_T63 l0_1 x11_2).f0, (rd_T63 l0_1 x11_2).f1⟩ : S63)]) t496 t497) else (none))) = some (r1, r2, r3) := H
         have A63 := Aside0.mk A630
         clear A630
         by_cases c64 : t504 = true
         ·subst c64
          have H1 : (if x496001_2.length < 8796093022208 then ((some (x496001_2 ++ [(⟨t496, t497⟩ : S63)] : List (S63))).bind fun y505 => (if y505.length < 8796093022208 then (spec_NetAdd.l0 k2 true (wrap64 (x11_2 + 1)) a0_0 l0_1 a0_0 (y505 ++ [(⟨(rd_T63 l0_1 x11_2).f0, (rd_T63 l0_1 x11_2).f1⟩ : S63)]) t496 t497) else (none))) else (none)) = some (r1, r2, r3) := by rw [if_pos rfl] at H; exact H
          clear H
          have H := H1
          clear H1
          by_cases c65 : x496001_2.length < 8796093022208
          ·rw [if_pos c65] at H
           have LMc65 := Aside0.mk c65
           clear c65
           obtain ⟨y505, hy505⟩ : ∃ y_ : List (S63), y_ = (x496001_2 ++ [(⟨t496, t497⟩ : S63)]) := ⟨_, rfl⟩
           replace H : (if y505.length < 8796093022208 then (spec_NetAdd.l0 k2 true (wrap64 (x11_2 + 1)) a0_0 l0_1 a0_0 (y505 ++ [(⟨(rd_T63 l0_1 x11_2).f0, (rd_T63 l0_1 x11_2).f1⟩ : S63)]) t496 t497) else (none)) = some (r1, r2, r3) := by first | (rw [hy505]; with_reducible exact H) | (have H2_ := (Option.bind_some _ _).symm.trans H; rw [hy505]; with_reducible exact H2_) | (have H2_ := (Option.bind_some _ _).symm.trans H; with_reducible exact H2_) | with_reducible exact H | (rw [hy505]; exact H) | exact H
           have Ny505 := Aside0.mk hy505
           clear hy505
           by_cases c66 : y505.length < 8796093022208
           ·rw [if_pos c66] at H
            have LMc66 := Aside0.mk c66
            clear c66
            obtain ⟨y509, hy509⟩ : ∃ y_ : List (S63), y_ = (y505 ++ [(⟨(rd_T63 l0_1 x11_2).f0, (rd_T63 l0_1 x11_2).f1⟩ : S63)]) := ⟨_, rfl⟩
            replace H : (spec_NetAdd.l0 k2 true (wrap64 (x11_2 + 1)) a0_0 l0_1 a0_0 y509 t496 t497) = some (r1, r2, r3) := by first | (rw [hy509]; with_reducible exact H) | (have H2_ := (Option.bind_some _ _).symm.trans H; rw [hy509]; with_reducible exact H2_) | (have H2_ := (Option.bind_some _ _).symm.trans H; with_reducible exact H2_) | with_reducible exact H | (rw [hy509]; exact H) | exact H
            have Ny509 := Aside0.mk hy509
            clear hy509
            have H' := Aside0.mk H
            clear H
            have hnb67 := NB490_491.out
            have hnc67 := NB491_490.out
            have hnb68 := NB490_495.out
            have hnc68 := NB495_490.out
            have hnb69 := NB490_498.out
            have hnc69 := NB498_490.out
            have hcz70_0 : wr.cell? ⟨gb490, 0, none⟩ = some (.int .i64 a0_0) := (blk_cell BK490.out 0).trans rfl
            have hcz70_1 : wr.cell? ⟨gb490, 1, none⟩ = some (.slice A0_1 l0_1.length c0_1) := (blk_cell BK490.out 1).trans rfl
            have hfz70_0 := blk_frozen BK490.out 0
            have hfz70_1 := blk_frozen BK490.out 1
            try go_wp2
            have n0_ := Aside0.mk (Kd.R_drew HO_496001.out)
            have n1_ := Aside0.mk (blk_drew BK490.out)
            have n2_ := Aside0.mk (blk_drew BK491.out)
            have n3_ := Aside0.mk (blk_drew BK495.out)
            have n4_ := Aside0.mk (blk_drew BK498.out)
            have n5_ := Aside0.mk (below_drew1 HB.out)
            clear HO_496001 BK490 BK491 BK495 BK498 HB
            revert n0_ n1_ n2_ n3_ n4_ n5_
            intro HO_496001 BK490 BK491 BK495 BK498 HB
            have p503 : 0 ≤ (x11_2 : Int) := of_decide_eq_true (G.asm)
            have q503 : x11_2 < (l0_1.length : Int) := of_decide_eq_true (G.asm)
            obtain ⟨ad503, e503, hx503_0, hx503_1⟩ := at_T63 HR0_1.out x11_2 p503 q503
            have hw503_1 := hx503_1
            have hw503_0 := hx503_0
            cases e503
            replace hx503_0 := (HB.out.cell (World.block_lt_of_cell? w _ hx503_0)).trans hx503_0
            replace hx503_1 := (HB.out.cell (World.block_lt_of_cell? w _ hx503_1)).trans hx503_1
            replace p503 := eq_true p503
            replace q503 := eq_true q503
            refine start_ (n := 11) (S := fun w' => w'.cell? ⟨gb498, 0, none⟩ = some (.int .i64 t496) ∧ w'.cell? ⟨gb498, 1, none⟩ = some (.int .i64 t497) ∧ w'.cell? ⟨gb490, 0, none⟩ = some (.int .i64 a0_0) ∧ w'.cell? ⟨gb490, 1, none⟩ = some (.slice (some ad503) l0_1.length c0_1) ∧ w'.cell? (ad503.add ((x11_2).toNat * 2)) = some (.int .i64 ((rd_T63 l0_1 x11_2).f0)) ∧ w'.cell? ⟨(ad503.add ((x11_2).toNat * 2)).block, (ad503.add ((x11_2).toNat * 2)).off + 1, none⟩ = some (.int .i64 ((rd_T63 l0_1 x11_2).f1))) (ds := []) (G.fl 11 0) (c11_8) rfl (c11_8) ⟨(blk_cell BK498.out 0).trans rfl, (blk_cell BK498.out 1).trans rfl, (blk_cell BK490.out 0).trans rfl, (blk_cell BK490.out 1).trans rfl, ((HB.out.cell (World.block_lt_of_cell? w _ hw503_0)).trans hw503_0), ((HB.out.cell (World.block_lt_of_cell? w _ hw503_1)).trans hw503_1)⟩ (fun hHeld => ?_); refine with_tabW spec_NetAdd.tab9 spec_NetAdd.bits9 (fun HT_ HW_ => ?_)
            generalize wr.drew = w71 at HO_496001 BK490 BK491 BK495 BK498 HB hx503_0 hx503_1 hHeld ⊢
            refine G.pu 0 (some 47) (G.fl 11 1) ?_
            refine G.pu 1 (some 48) (G.fl 11 3) ?_
            refine G.pu 2 (some 49) (G.fl 11 7) ?_
            refine G.pu 4 (some 51) (G.fl 11 23) ?_
            refine G.pu 6 (some 53) (G.fl 11 87) ?_
            refine G.ta6 3 (some 50) (G.fl 11 95) ?_
            refine G.ta6 5 (some 52) (G.fl 11 127) ?_
            refine G.pu 7 (some 54) (G.fl 11 255) ?_
            refine G.ta6 8 (some 55) (G.fl 11 511) ?_
            refine one_ (i := 9) (N := some 56) (G.fl 11 1023) rfl rfl (one_of HT_.out (c11_8)) (by decide) (fun K hK => ?_)
            refine goes_ Try.func66 (c11_8) rfl #[.agg #[.int .i64 t496, .int .i64 t497], .agg #[.int .i64 ((rd_T63 l0_1 x11_2).f0), .int .i64 ((rd_T63 l0_1 x11_2).f1)]] (by rfl) rfl rfl (G.ar) ?_
            with_reducible refine (spec_l1Less.calls t496 t497 ((rd_T63 l0_1 x11_2).f0) ((rd_T63 l0_1 x11_2).f1) true _ A63.out).mono ?_
            rintro e w72 ⟨rfl, hb⟩
            refine ⟨_, rfl, ?_⟩
            have n0_ := Aside0.mk (Kd.R_below (G.cR HO_496001.out) hb)
            have n1_ := Aside0.mk (blk_below (g := gb490) (o := .cells #[.int .i64 a0_0, .slice (some ad503) l0_1.length c0_1] 29 (0, 0)) (G.cb BK490.out) hb)
            have n2_ := Aside0.mk (blk_below (g := gb491) (o := .cells #[.int .i64 0, .slice none 0 0] 29 (0, 0)) (G.cb BK491.out) hb)
            have n3_ := Aside0.mk (blk_below (g := gb495) (o := .cells #[.int .i64 a0_0, u496001] 29 (0, 0)) (G.cb BK495.out) hb)
            have n4_ := Aside0.mk (blk_below (g := gb498) (o := .cells #[.int .i64 t496, .int .i64 t497] 63 (0, 0)) (G.cb BK498.out) hb)
            have n5_ := Aside0.mk (below_step (G.cB HB.out) hb)
            clear HO_496001 BK490 BK491 BK495 BK498 HB
            revert n0_ n1_ n2_ n3_ n4_ n5_
            intro HO_496001 BK490 BK491 BK495 BK498 HB
            (try clear hb)
            (try clear hb2)
            (try clear hk)
            (try clear hi)
            refine hK.out _ _ ⟨(blk_cell BK498.out 0).trans rfl, (blk_cell BK498.out 1).trans rfl, (blk_cell BK490.out 0).trans rfl, (blk_cell BK490.out 1).trans rfl, ((HB.out.cell (World.block_lt_of_cell? w _ hw503_0)).trans hw503_0), ((HB.out.cell (World.block_lt_of_cell? w _ hw503_1)).trans hw503_1)⟩ (fun hHeld => ?_)
            clear hK K
            refine G.no (some 56) ?_
            refine G.pu 10 (some 57) (G.fl 11 2047) ?_
            refine done_ (done_of HT_.out (c11_8)) ?_
            have hnb73 := NB495_491.out
            have hnc73 := NB491_495.out
            have hnb74 := NB495_498.out
            have hnc74 := NB498_495.out
            have hcz75_0 : w72.cell? ⟨gb495, 0, none⟩ = some (.int .i64 a0_0) := (blk_cell BK495.out 0).trans rfl
            have hcz75_1 : w72.cell? ⟨gb495, 1, none⟩ = some (u496001) := (blk_cell BK495.out 1).trans rfl
            have hfz75_0 := blk_frozen BK495.out 0
            have hfz75_1 := blk_frozen BK495.out 1
            have hnb76 := NB498_491.out
            have hnc76 := NB491_498.out
            have hcz77_0 : w72.cell? ⟨gb498, 0, none⟩ = some (.int .i64 t496) := (blk_cell BK498.out 0).trans rfl
            have hcz77_1 : w72.cell? ⟨gb498, 1, none⟩ = some (.int .i64 t497) := (blk_cell BK498.out 1).trans rfl
            have hfz77_0 := blk_frozen BK498.out 0
            have hfz77_1 := blk_frozen BK498.out 1
            try go_wp2_with (first | ((with_reducible refine gate_builtin (b := .append) (xs := #[.tmp 59, .tmp 61]) rfl ?_); at_builtin; refine Kd.R_append k63 (w0 := w) w.heap.size rfl (.tmp 59) (.tmp 61) 27 63 (.agg #[(.int .i64 0), (.int .i64 0)]) 16 rfl Try.underlying27 info63 rfl (by decide) (by omega) u496001 x496001_2 (⟨t496, t497⟩ : S63) [.int .i64 t496, .int .i64 t497] (fun k_ => k_ ≠ gb498) (fun _ => False) rfl rfl ?aP (fun _ hk => hk.elim) ?aF ?aO ?aB ?aS ?aL ?_; (case aP => exact k63_mkM _ _ _ (⟨t496, t497⟩ : S63)); (case aB => exact (G.cB HB.out)); (case aF => exact (fun k_ hk => Kd.freshB (g := gb498) (o := .cells #[.int .i64 t496, .int .i64 t497] 63 (0, 0)) (G.cb BK498.out) k_ hk)); (case aO => exact (G.cR HO_496001.out)); (case aS => exact (below_size (G.cB HB.out))); (case aL => have := LMc65.out; omega); intro v506 w78 ho hb hg hat; rw [← Ny505.out] at ho; have n0_ := Aside0.mk (blk_grown (g := gb490) (o := .cells #[.int .i64 a0_0, .slice (some ad503) l0_1.length c0_1] 29 (0, 0)) (G.cb BK490.out) hg (Kd.R_ne HO_496001.out BK490.out (by decide))); have n1_ := Aside0.mk (blk_grown (g := gb491) (o := .cells #[.int .i64 0, .slice none 0 0] 29 (0, 0)) (G.cb BK491.out) hg (Kd.R_ne HO_496001.out BK491.out (by decide))); have n2_ := Aside0.mk (blk_grown (g := gb495) (o := .cells #[.int .i64 a0_0, u496001] 29 (0, 0)) (G.cb BK495.out) hg (Kd.R_ne HO_496001.out BK495.out (by decide))); have n3_ := Aside0.mk (blk_grown (g := gb498) (o := .cells #[.int .i64 t496, .int .i64 t497] 63 (0, 0)) (G.cb BK498.out) hg (Kd.R_away HO_496001.out (fun _ hk => hk))); have n4_ := Aside0.mk (hb); have n5_ := Aside0.mk (ho); clear BK490 BK491 BK495 BK498 HB HO_496001; revert n0_ n1_ n2_ n3_ n4_ n5_; intro BK490 BK491 BK495 BK498 HB HO507; clear ho hb hg hat; obtain ⟨Ao79, co79, eo79⟩ := Kd.R_slice HO507.out; subst eo79; have hcz80_0 : w78.cell? ⟨gb495, 0, none⟩ = some (.int .i64 a0_0) := (blk_cell BK495.out 0).trans rfl; have hcz80_1 : w78.cell? ⟨gb495, 1, none⟩ = some (u496001) := (blk_cell BK495.out 1).trans rfl; have hfz80_0 := blk_frozen BK495.out 0; have hfz80_1 := blk_frozen BK495.out 1))
            have n0_ : Aside0 (Kd.R k63 63 (w78.setCell ⟨gb495, 1, none⟩ (.slice Ao79 y505.length co79)) w.heap.size (fun k_ => k_ ≠ gb498) (.slice Ao79 y505.length co79) y505) := ⟨by (with_reducible repeat (first | apply Kd.R_alloc | apply Kd.R_drewN | apply Kd.R_drew)); exact Kd.R_mono (Kd.R_far (p := ⟨gb495, 1, none⟩) (Kd.R_types HO507.out BK495.out (by decide)) (fun _ hk => hk.2) (.slice Ao79 y505.length co79)) (fun _ hk => hk.1)⟩
            have n1_ : Aside0 ((w78.setCell ⟨gb495, 1, none⟩ (.slice Ao79 y505.length co79)).heap[gb490]? = some (.cells #[.int .i64 a0_0, .slice (some ad503) l0_1.length c0_1] 29 (0, 0))) := ⟨c11_1⟩
            have n2_ : Aside0 ((w78.setCell ⟨gb495, 1, none⟩ (.slice Ao79 y505.length co79)).heap[gb491]? = some (.cells #[.int .i64 0, .slice none 0 0] 29 (0, 0))) := ⟨c11_2⟩
            have n3_ : Aside0 ((w78.setCell ⟨gb495, 1, none⟩ (.slice Ao79 y505.length co79)).heap[gb495]? = some (.cells #[.int .i64 a0_0, .slice Ao79 y505.length co79] 29 (0, 0))) := ⟨c11_0⟩
            have n4_ : Aside0 ((w78.setCell ⟨gb495, 1, none⟩ (.slice Ao79 y505.length co79)).heap[gb498]? = some (.cells #[.int .i64 t496, .int .i64 t497] 63 (0, 0))) := ⟨c11_3⟩
            have n5_ : Aside0 (Below w.heap.size w (w78.setCell ⟨gb495, 1, none⟩ (.slice Ao79 y505.length co79))) := ⟨G.cB HB.out⟩
            (try clear HO507)
            (try clear BK490)
            (try clear BK491)
            (try clear BK495)
            (try clear BK498)
            (try clear HB)
            generalize (w78.setCell ⟨gb495, 1, none⟩ (.slice Ao79 y505.length co79)) = w81 at n0_ n1_ n2_ n3_ n4_ n5_ ⊢
            revert n0_ n1_ n2_ n3_ n4_ n5_
            intro HO507 BK490 BK491 BK495 BK498 HB
            have n0_ := Aside0.mk (Kd.R_drew HO507.out)
            have n1_ := Aside0.mk (blk_drew BK490.out)
            have n2_ := Aside0.mk (blk_drew BK491.out)
            have n3_ := Aside0.mk (blk_drew BK495.out)
            have n4_ := Aside0.mk (blk_drew BK498.out)
            have n5_ := Aside0.mk (below_drew1 HB.out)
            clear HO507 BK490 BK491 BK495 BK498 HB
            revert n0_ n1_ n2_ n3_ n4_ n5_
            intro HO507 BK490 BK491 BK495 BK498 HB
            have p508 : 0 ≤ (x11_2 : Int) := of_decide_eq_true (G.asm)
            have q508 : x11_2 < (l0_1.length : Int) := of_decide_eq_true (G.asm)
            obtain ⟨ad508, e508, hx508_0, hx508_1⟩ := at_T63 HR0_1.out x11_2 p508 q508
            have hw508_1 := hx508_1
            have hw508_0 := hx508_0
            obtain rfl : ad503 = ad508 := (by injection e508)
            replace hx508_0 := (HB.out.cell (World.block_lt_of_cell? w _ hx508_0)).trans hx508_0
            replace hx508_1 := (HB.out.cell (World.block_lt_of_cell? w _ hx508_1)).trans hx508_1
            replace p508 := eq_true p508
            replace q508 := eq_true q508
            refine start_ (n := 11) (S := fun w' => w'.cell? ⟨gb495, 0, none⟩ = some (.int .i64 a0_0) ∧ w'.cell? ⟨gb495, 1, none⟩ = some (.slice Ao79 y505.length co79) ∧ w'.cell? ⟨gb490, 0, none⟩ = some (.int .i64 a0_0) ∧ w'.cell? ⟨gb490, 1, none⟩ = some (.slice (some ad503) l0_1.length c0_1) ∧ w'.cell? (ad503.add ((x11_2).toNat * 2)) = some (.int .i64 ((rd_T63 l0_1 x11_2).f0)) ∧ w'.cell? ⟨(ad503.add ((x11_2).toNat * 2)).block, (ad503.add ((x11_2).toNat * 2)).off + 1, none⟩ = some (.int .i64 ((rd_T63 l0_1 x11_2).f1))) (ds := [10]) (G.fl 11 0) (c11_8) rfl (c11_8) ⟨(blk_cell BK495.out 0).trans rfl, (blk_cell BK495.out 1).trans rfl, (blk_cell BK490.out 0).trans rfl, (blk_cell BK490.out 1).trans rfl, ((HB.out.cell (World.block_lt_of_cell? w _ hw508_0)).trans hw508_0), ((HB.out.cell (World.block_lt_of_cell? w _ hw508_1)).trans hw508_1)⟩ (fun hHeld => ?_); refine with_tabW spec_NetAdd.tab12 spec_NetAdd.bits12 (fun HT_ HW_ => ?_)
            generalize w81.drew = w82 at HO507 BK490 BK491 BK495 BK498 HB hx508_0 hx508_1 hHeld ⊢
            refine G.pu 0 (some 64) (G.fl 11 1) ?_
            refine G.pu 2 (some 66) (G.fl 11 5) ?_
            refine G.pu 4 (some 68) (G.fl 11 21) ?_
            refine G.ta6 1 (some 65) (G.fl 11 23) ?_
            refine G.ta6 3 (some 67) (G.fl 11 31) ?_
            refine G.pu 5 (some 69) (G.fl 11 63) ?_
            refine G.ta6 6 (some 70) (G.fl 11 127) ?_
            refine one_ (i := 7) (N := some 71) (G.fl 11 255) rfl rfl (one_of HT_.out (c11_8)) (by decide) (fun K hK => ?_)
            refine value_ (w1 := ?_) (v := ?_) (by rfl) rfl ?_ ?_
            rotate_left 2
            ·go_simp
             constructor
             ·rfl
             ·rfl
            refine hK.out _ _ ⟨(blk_cell (blk_alloc BK495.out _) 0).trans rfl, (blk_cell (blk_alloc BK495.out _) 1).trans rfl, (blk_cell (blk_alloc BK490.out _) 0).trans rfl, (blk_cell (blk_alloc BK490.out _) 1).trans rfl, (World.cell?_alloc_lt _ _ _ (World.block_lt_of_cell? _ _ (((HB.out.cell (World.block_lt_of_cell? w _ hw508_0)).trans hw508_0)))).trans (((HB.out.cell (World.block_lt_of_cell? w _ hw508_0)).trans hw508_0)), (World.cell?_alloc_lt _ _ _ (World.block_lt_of_cell? _ _ (((HB.out.cell (World.block_lt_of_cell? w _ hw508_1)).trans hw508_1)))).trans (((HB.out.cell (World.block_lt_of_cell? w _ hw508_1)).trans hw508_1))⟩ (fun hHeld => ?_)
            clear hK K
            refine G.no (some 71) ?_
            refine one_ (i := 8) (N := some 72) (G.fl 11 511) rfl rfl (one_of HT_.out (c11_8)) (by decide) (fun K hK => ?_)
            refine Kd.R_append_step k63 (w0 := w) w.heap.size (by rfl) (.tmp 65) (.tmp 71) 27 63 (.agg #[(.int .i64 0), (.int .i64 0)]) 16 rfl Try.underlying27 info63 rfl (by decide) (by omega) (.slice Ao79 y505.length co79) y505 (⟨(rd_T63 l0_1 x11_2).f0, (rd_T63 l0_1 x11_2).f1⟩ : S63) [.int .i64 ((rd_T63 l0_1 x11_2).f0), .int .i64 ((rd_T63 l0_1 x11_2).f1)] (fun k_ => k_ ≠ gb498) (fun _ => False) rfl rfl ?aP (fun _ hk => hk.elim) ?aF ?aO ?aB ?aS ?aL ?_
            (case aP => exact k63_mkM _ _ _ (⟨(rd_T63 l0_1 x11_2).f0, (rd_T63 l0_1 x11_2).f1⟩ : S63))
            (case aB => exact (G.cB HB.out))
            (case aF => exact (fun k_ hk => Kd.freshB (g := gb498) (o := .cells #[.int .i64 t496, .int .i64 t497] 63 (0, 0)) (G.cb BK498.out) k_ hk))
            (case aO => exact (G.cR HO507.out))
            (case aS => exact (below_size (G.cB HB.out)))
            (case aL => have := LMc66.out; omega)
            intro v510 w83 ho hb hg hat
            rw [← Ny509.out] at ho
            have n0_ := Aside0.mk (blk_grown (g := gb490) (o := .cells #[.int .i64 a0_0, .slice (some ad503) l0_1.length c0_1] 29 (0, 0)) (G.cb BK490.out) hg (Kd.R_ne HO507.out BK490.out (by decide)))
            have n1_ := Aside0.mk (blk_grown (g := gb491) (o := .cells #[.int .i64 0, .slice none 0 0] 29 (0, 0)) (G.cb BK491.out) hg (Kd.R_ne HO507.out BK491.out (by decide)))
            have n2_ := Aside0.mk (blk_grown (g := gb495) (o := .cells #[.int .i64 a0_0, .slice Ao79 y505.length co79] 29 (0, 0)) (G.cb BK495.out) hg (Kd.R_ne HO507.out BK495.out (by decide)))
            have n3_ := Aside0.mk (blk_grown (g := gb498) (o := .cells #[.int .i64 t496, .int .i64 t497] 63 (0, 0)) (G.cb BK498.out) hg (Kd.R_away HO507.out (fun _ hk => hk)))
            have n4_ := Aside0.mk (hb)
            have n5_ := Aside0.mk (ho)
            clear BK490 BK491 BK495 BK498 HB HO507
            revert n0_ n1_ n2_ n3_ n4_ n5_
            intro BK490 BK491 BK495 BK498 HB HO511
            clear ho hb hg hat
            obtain ⟨Ao84, co84, eo84⟩ := Kd.R_slice HO511.out
            (first | subst eo84 | (injection eo84 with f1_ f2_ f3_; have f4_ := f1_.symm; have f5_ := f3_.symm; clear f1_ f2_ f3_; subst f4_; subst f5_))
            refine hK.out _ _ ⟨(blk_cell BK495.out 0).trans rfl, (blk_cell BK495.out 1).trans rfl, (blk_cell BK490.out 0).trans rfl, (blk_cell BK490.out 1).trans rfl, ((HB.out.cell (World.block_lt_of_cell? w _ hw508_0)).trans hw508_0), ((HB.out.cell (World.block_lt_of_cell? w _ hw508_1)).trans hw508_1)⟩ (fun hHeld => ?_)
            clear hK K
            refine G.no (some 72) ?_
            refine G.pu 9 (some 73) (G.fl 11 1023) ?_
            refine last_ (i := 10) (N := none) (G.fl 11 2047) rfl rfl (one_of HT_.out (c11_8)) (by decide) (fun K hK => ?_)
            have hs85 : w83.cell? ⟨gb495, 1, none⟩ = some (.slice Ao79 y505.length co79) := (blk_cell BK495.out 1).trans rfl
            have hfs85 := blk_frozen BK495.out 1
            have hns85_0 := NB490_495.out
            have hns85_1 := NB491_495.out
            have hns85_3 := NB498_495.out
            have hms85_0 := NB495_490.out
            have hms85_1 := NB495_491.out
            have hms85_3 := NB495_498.out
            refine skip_ (w1 := ?_) (by rfl) rfl ?_ ?_
            rotate_left
            ·go_simp
             rfl
            refine hK.out _ _ ?_
            clear hK K
            refine done_ (done_of HT_.out (c11_8)) ?_
            try go_wp2
            go_roundg k2
            case measure => have := HJ3.out; have := HK2.out; omega
            case rel => exact ⟨(true), (wrap64 (x11_2 + 1)), (y509), (.slice Ao84 y509.length co84), (c11_6), (c11_6), H', ⟨by have := HJ3.out; have := HK2.out; omega⟩, ⟨by (with_reducible repeat (first | apply Kd.R_alloc | apply Kd.R_drewN | apply Kd.R_drew)); exact Kd.R_mono (Kd.R_far (p := ⟨gb495, 1, none⟩) (Kd.R_types HO511.out BK495.out (by decide)) (fun _ hk => hk.2) (.slice Ao84 y509.length co84)) (fun _ hk => hk.1)⟩, ⟨c11_1⟩, ⟨c11_2⟩, ⟨by (with_reducible repeat (first | refine blk_drewN ?_ _ | refine blk_drew ?_ | refine blk_alloc ?_ _)); refine blk_put (cs := #[.int .i64 a0_0, .slice Ao79 y505.length co79]) ?_ 1 _ rfl; (with_reducible repeat (first | refine blk_drewN ?_ _ | refine blk_drew ?_ | refine blk_alloc ?_ _)); exact BK495.out⟩, ⟨c11_3⟩, ⟨G.cB HB.out⟩⟩
           ·rw [if_neg c66] at H
            exact absurd H (by simp)
          ·rw [if_neg c65] at H
           exact absurd H (by simp)
         ·replace c64 := Bool.eq_false_iff.mpr c64
          subst c64
          have H1 : (if x496001_2.length < 8796093022208 then (spec_NetAdd.l0 k2 false (wrap64 (x11_2 + 1)) a0_0 l0_1 a0_0 (x496001_2 ++ [(⟨(rd_T63 l0_1 x11_2).f0, (rd_T63 l0_1 x11_2).f1⟩ : S63)]) t496 t497) else (none)) = some (r1, r2, r3) := by rw [if_neg (show ¬ (false = true) by decide)] at H; exact H
          clear H
          have H := H1
          clear H1
          by_cases c86 : x496001_2.length < 8796093022208
          ·rw [if_pos c86] at H
           have LMc86 := Aside0.mk c86
           clear c86
           obtain ⟨y513, hy513⟩ : ∃ y_ : List (S63), y_ = (x496001_2 ++ [(⟨(rd_T63 l0_1 x11_2).f0, (rd_T63 l0_1 x11_2).f1⟩ : S63)]) := ⟨_, rfl⟩
           replace H : (spec_NetAdd.l0 k2 false (wrap64 (x11_2 + 1)) a0_0 l0_1 a0_0 y513 t496 t497) = some (r1, r2, r3) := by first | (rw [hy513]; with_reducible exact H) | (have H2_ := (Option.bind_some _ _).symm.trans H; rw [hy513]; with_reducible exact H2_) | (have H2_ := (Option.bind_some _ _).symm.trans H; with_reducible exact H2_) | with_reducible exact H | (rw [hy513]; exact H) | exact H
           have Ny513 := Aside0.mk hy513
           clear hy513
           have H' := Aside0.mk H
           clear H
           have hnb87 := NB490_491.out
           have hnc87 := NB491_490.out
           have hnb88 := NB490_495.out
           have hnc88 := NB495_490.out
           have hnb89 := NB490_498.out
           have hnc89 := NB498_490.out
           have hcz90_0 : wr.cell? ⟨gb490, 0, none⟩ = some (.int .i64 a0_0) := (blk_cell BK490.out 0).trans rfl
           have hcz90_1 : wr.cell? ⟨gb490, 1, none⟩ = some (.slice A0_1 l0_1.length c0_1) := (blk_cell BK490.out 1).trans rfl
           have hfz90_0 := blk_frozen BK490.out 0
           have hfz90_1 := blk_frozen BK490.out 1
           try go_wp2
           have n0_ := Aside0.mk (Kd.R_drew HO_496001.out)
           have n1_ := Aside0.mk (blk_drew BK490.out)
           have n2_ := Aside0.mk (blk_drew BK491.out)
           have n3_ := Aside0.mk (blk_drew BK495.out)
           have n4_ := Aside0.mk (blk_drew BK498.out)
           have n5_ := Aside0.mk (below_drew1 HB.out)
           clear HO_496001 BK490 BK491 BK495 BK498 HB
           revert n0_ n1_ n2_ n3_ n4_ n5_
           intro HO_496001 BK490 BK491 BK495 BK498 HB
           have p503 : 0 ≤ (x11_2 : Int) := of_decide_eq_true (G.asm)
           have q503 : x11_2 < (l0_1.length : Int) := of_decide_eq_true (G.asm)
           obtain ⟨ad503, e503, hx503_0, hx503_1⟩ := at_T63 HR0_1.out x11_2 p503 q503
           have hw503_1 := hx503_1
           have hw503_0 := hx503_0
           cases e503
           replace hx503_0 := (HB.out.cell (World.block_lt_of_cell? w _ hx503_0)).trans hx503_0
           replace hx503_1 := (HB.out.cell (World.block_lt_of_cell? w _ hx503_1)).trans hx503_1
           replace p503 := eq_true p503
           replace q503 := eq_true q503
           refine start_ (n := 11) (S := fun w' => w'.cell? ⟨gb498, 0, none⟩ = some (.int .i64 t496) ∧ w'.cell? ⟨gb498, 1, none⟩ = some (.int .i64 t497) ∧ w'.cell? ⟨gb490, 0, none⟩ = some (.int .i64 a0_0) ∧ w'.cell? ⟨gb490, 1, none⟩ = some (.slice (some ad503) l0_1.length c0_1) ∧ w'.cell? (ad503.add ((x11_2).toNat * 2)) = some (.int .i64 ((rd_T63 l0_1 x11_2).f0)) ∧ w'.cell? ⟨(ad503.add ((x11_2).toNat * 2)).block, (ad503.add ((x11_2).toNat * 2)).off + 1, none⟩ = some (.int .i64 ((rd_T63 l0_1 x11_2).f1))) (ds := []) (G.fl 11 0) (c11_8) rfl (c11_8) ⟨(blk_cell BK498.out 0).trans rfl, (blk_cell BK498.out 1).trans rfl, (blk_cell BK490.out 0).trans rfl, (blk_cell BK490.out 1).trans rfl, ((HB.out.cell (World.block_lt_of_cell? w _ hw503_0)).trans hw503_0), ((HB.out.cell (World.block_lt_of_cell? w _ hw503_1)).trans hw503_1)⟩ (fun hHeld => ?_); refine with_tabW spec_NetAdd.tab9 spec_NetAdd.bits9 (fun HT_ HW_ => ?_)
           generalize wr.drew = w91 at HO_496001 BK490 BK491 BK495 BK498 HB hx503_0 hx503_1 hHeld ⊢
           refine G.pu 0 (some 47) (G.fl 11 1) ?_
           refine G.pu 1 (some 48) (G.fl 11 3) ?_
           refine G.pu 2 (some 49) (G.fl 11 7) ?_
           refine G.pu 4 (some 51) (G.fl 11 23) ?_
           refine G.pu 6 (some 53) (G.fl 11 87) ?_
           refine G.ta6 3 (some 50) (G.fl 11 95) ?_
           refine G.ta6 5 (some 52) (G.fl 11 127) ?_
           refine G.pu 7 (some 54) (G.fl 11 255) ?_
           refine G.ta6 8 (some 55) (G.fl 11 511) ?_
           refine one_ (i := 9) (N := some 56) (G.fl 11 1023) rfl rfl (one_of HT_.out (c11_8)) (by decide) (fun K hK => ?_)
           refine goes_ Try.func66 (c11_8) rfl #[.agg #[.int .i64 t496, .int .i64 t497], .agg #[.int .i64 ((rd_T63 l0_1 x11_2).f0), .int .i64 ((rd_T63 l0_1 x11_2).f1)]] (by rfl) rfl rfl (G.ar) ?_
           with_reducible refine (spec_l1Less.calls t496 t497 ((rd_T63 l0_1 x11_2).f0) ((rd_T63 l0_1 x11_2).f1) false _ A63.out).mono ?_
           rintro e w92 ⟨rfl, hb⟩
           refine ⟨_, rfl, ?_⟩
           have n0_ := Aside0.mk (Kd.R_below (G.cR HO_496001.out) hb)
           have n1_ := Aside0.mk (blk_below (g := gb490) (o := .cells #[.int .i64 a0_0, .slice (some ad503) l0_1.length c0_1] 29 (0, 0)) (G.cb BK490.out) hb)
           have n2_ := Aside0.mk (blk_below (g := gb491) (o := .cells #[.int .i64 0, .slice none 0 0] 29 (0, 0)) (G.cb BK491.out) hb)
           have n3_ := Aside0.mk (blk_below (g := gb495) (o := .cells #[.int .i64 a0_0, u496001] 29 (0, 0)) (G.cb BK495.out) hb)
           have n4_ := Aside0.mk (blk_below (g := gb498) (o := .cells #[.int .i64 t496, .int .i64 t497] 63 (0, 0)) (G.cb BK498.out) hb)
           have n5_ := Aside0.mk (below_step (G.cB HB.out) hb)
           clear HO_496001 BK490 BK491 BK495 BK498 HB
           revert n0_ n1_ n2_ n3_ n4_ n5_
           intro HO_496001 BK490 BK491 BK495 BK498 HB
           (try clear hb)
           (try clear hb2)
           (try clear hk)
           (try clear hi)
           refine hK.out _ _ ⟨(blk_cell BK498.out 0).trans rfl, (blk_cell BK498.out 1).trans rfl, (blk_cell BK490.out 0).trans rfl, (blk_cell BK490.out 1).trans rfl, ((HB.out.cell (World.block_lt_of_cell? w _ hw503_0)).trans hw503_0), ((HB.out.cell (World.block_lt_of_cell? w _ hw503_1)).trans hw503_1)⟩ (fun hHeld => ?_)
           clear hK K
           refine G.no (some 56) ?_
           refine G.pu 10 (some 57) (G.fl 11 2047) ?_
           refine done_ (done_of HT_.out (c11_8)) ?_
           try go_wp2
           have n0_ := Aside0.mk (Kd.R_drew HO_496001.out)
           have n1_ := Aside0.mk (blk_drew BK490.out)
           have n2_ := Aside0.mk (blk_drew BK491.out)
           have n3_ := Aside0.mk (blk_drew BK495.out)
           have n4_ := Aside0.mk (blk_drew BK498.out)
           have n5_ := Aside0.mk (below_drew1 HB.out)
           clear HO_496001 BK490 BK491 BK495 BK498 HB
           revert n0_ n1_ n2_ n3_ n4_ n5_
           intro HO_496001 BK490 BK491 BK495 BK498 HB
           have p512 : 0 ≤ (x11_2 : Int) := of_decide_eq_true (G.asm)
           have q512 : x11_2 < (l0_1.length : Int) := of_decide_eq_true (G.asm)
           obtain ⟨ad512, e512, hx512_0, hx512_1⟩ := at_T63 HR0_1.out x11_2 p512 q512
           have hw512_1 := hx512_1
           have hw512_0 := hx512_0
           obtain rfl : ad503 = ad512 := (by injection e512)
           replace hx512_0 := (HB.out.cell (World.block_lt_of_cell? w _ hx512_0)).trans hx512_0
           replace hx512_1 := (HB.out.cell (World.block_lt_of_cell? w _ hx512_1)).trans hx512_1
           replace p512 := eq_true p512
           replace q512 := eq_true q512
           refine start_ (n := 11) (S := fun w' => w'.cell? ⟨gb495, 0, none⟩ = some (.int .i64 a0_0) ∧ w'.cell? ⟨gb495, 1, none⟩ = some (u496001) ∧ w'.cell? ⟨gb490, 0, none⟩ = some (.int .i64 a0_0) ∧ w'.cell? ⟨gb490, 1, none⟩ = some (.slice (some ad503) l0_1.length c0_1) ∧ w'.cell? (ad503.add ((x11_2).toNat * 2)) = some (.int .i64 ((rd_T63 l0_1 x11_2).f0)) ∧ w'.cell? ⟨(ad503.add ((x11_2).toNat * 2)).block, (ad503.add ((x11_2).toNat * 2)).off + 1, none⟩ = some (.int .i64 ((rd_T63 l0_1 x11_2).f1))) (ds := [10]) (G.fl 11 0) (c11_8) rfl (c11_8) ⟨(blk_cell BK495.out 0).trans rfl, (blk_cell BK495.out 1).trans rfl, (blk_cell BK490.out 0).trans rfl, (blk_cell BK490.out 1).trans rfl, ((HB.out.cell (World.block_lt_of_cell? w _ hw512_0)).trans hw512_0), ((HB.out.cell (World.block_lt_of_cell? w _ hw512_1)).trans hw512_1)⟩ (fun hHeld => ?_); refine with_tabW spec_NetAdd.tab12 spec_NetAdd.bits12 (fun HT_ HW_ => ?_)
           generalize w92.drew = w93 at HO_496001 BK490 BK491 BK495 BK498 HB hx512_0 hx512_1 hHeld ⊢
           refine G.pu 0 (some 64) (G.fl 11 1) ?_
           refine G.pu 2 (some 66) (G.fl 11 5) ?_
           refine G.pu 4 (some 68) (G.fl 11 21) ?_
           refine G.ta6 1 (some 65) (G.fl 11 23) ?_
           refine G.ta6 3 (some 67) (G.fl 11 31) ?_
           refine G.pu 5 (some 69) (G.fl 11 63) ?_
           refine G.ta6 6 (some 70) (G.fl 11 127) ?_
           refine one_ (i := 7) (N := some 71) (G.fl 11 255) rfl rfl (one_of HT_.out (c11_8)) (by decide) (fun K hK => ?_)
           refine value_ (w1 := ?_) (v := ?_) (by rfl) rfl ?_ ?_
           rotate_left 2
           ·go_simp
            constructor
            ·rfl
            ·rfl
           refine hK.out _ _ ⟨(blk_cell (blk_alloc BK495.out _) 0).trans rfl, (blk_cell (blk_alloc BK495.out _) 1).trans rfl, (blk_cell (blk_alloc BK490.out _) 0).trans rfl, (blk_cell (blk_alloc BK490.out _) 1).trans rfl, (World.cell?_alloc_lt _ _ _ (World.block_lt_of_cell? _ _ (((HB.out.cell (World.block_lt_of_cell? w _ hw512_0)).trans hw512_0)))).trans (((HB.out.cell (World.block_lt_of_cell? w _ hw512_0)).trans hw512_0)), (World.cell?_alloc_lt _ _ _ (World.block_lt_of_cell? _ _ (((HB.out.cell (World.block_lt_of_cell? w _ hw512_1)).trans hw512_1)))).trans (((HB.out.cell (World.block_lt_of_cell? w _ hw512_1)).trans hw512_1))⟩ (fun hHeld => ?_)
           clear hK K
           refine G.no (some 71) ?_
           refine one_ (i := 8) (N := some 72) (G.fl 11 511) rfl rfl (one_of HT_.out (c11_8)) (by decide) (fun K hK => ?_)
           refine Kd.R_append_step k63 (w0 := w) w.heap.size (by rfl) (.tmp 65) (.tmp 71) 27 63 (.agg #[(.int .i64 0), (.int .i64 0)]) 16 rfl Try.underlying27 info63 rfl (by decide) (by omega) u496001 x496001_2 (⟨(rd_T63 l0_1 x11_2).f0, (rd_T63 l0_1 x11_2).f1⟩ : S63) [.int .i64 ((rd_T63 l0_1 x11_2).f0), .int .i64 ((rd_T63 l0_1 x11_2).f1)] (fun k_ => k_ ≠ gb498) (fun _ => False) rfl rfl ?aP (fun _ hk => hk.elim) ?aF ?aO ?aB ?aS ?aL ?_
           (case aP => exact k63_mkM _ _ _ (⟨(rd_T63 l0_1 x11_2).f0, (rd_T63 l0_1 x11_2).f1⟩ : S63))
           (case aB => exact (G.cB HB.out))
           (case aF => exact (fun k_ hk => Kd.freshB (g := gb498) (o := .cells #[.int .i64 t496, .int .i64 t497] 63 (0, 0)) (G.cb BK498.out) k_ hk))
           (case aO => exact (G.cR HO_496001.out))
           (case aS => exact (below_size (G.cB HB.out)))
           (case aL => have := LMc86.out; omega)
           intro v514 w94 ho hb hg hat
           rw [← Ny513.out] at ho
           have n0_ := Aside0.mk (blk_grown (g := gb490) (o := .cells #[.int .i64 a0_0, .slice (some ad503) l0_1.length c0_1] 29 (0, 0)) (G.cb BK490.out) hg (Kd.R_ne HO_496001.out BK490.out (by decide)))
           have n1_ := Aside0.mk (blk_grown (g := gb491) (o := .cells #[.int .i64 0, .slice none 0 0] 29 (0, 0)) (G.cb BK491.out) hg (Kd.R_ne HO_496001.out BK491.out (by decide)))
           have n2_ := Aside0.mk (blk_grown (g := gb495) (o := .cells #[.int .i64 a0_0, u496001] 29 (0, 0)) (G.cb BK495.out) hg (Kd.R_ne HO_496001.out BK495.out (by decide)))
           have n3_ := Aside0.mk (blk_grown (g := gb498) (o := .cells #[.int .i64 t496, .int .i64 t497] 63 (0, 0)) (G.cb BK498.out) hg (Kd.R_away HO_496001.out (fun _ hk => hk)))
           have n4_ := Aside0.mk (hb)
           have n5_ := Aside0.mk (ho)
           clear BK490 BK491 BK495 BK498 HB HO_496001
           revert n0_ n1_ n2_ n3_ n4_ n5_
           intro BK490 BK491 BK495 BK498 HB HO515
           clear ho hb hg hat
           obtain ⟨Ao95, co95, eo95⟩ := Kd.R_slice HO515.out
           (first | subst eo95 | (injection eo95 with f1_ f2_ f3_; have f4_ := f1_.symm; have f5_ := f3_.symm; clear f1_ f2_ f3_; subst f4_; subst f5_))
           refine hK.out _ _ ⟨(blk_cell BK495.out 0).trans rfl, (blk_cell BK495.out 1).trans rfl, (blk_cell BK490.out 0).trans rfl, (blk_cell BK490.out 1).trans rfl, ((HB.out.cell (World.block_lt_of_cell? w _ hw512_0)).trans hw512_0), ((HB.out.cell (World.block_lt_of_cell? w _ hw512_1)).trans hw512_1)⟩ (fun hHeld => ?_)
           clear hK K
           refine G.no (some 72) ?_
           refine G.pu 9 (some 73) (G.fl 11 1023) ?_
           refine last_ (i := 10) (N := none) (G.fl 11 2047) rfl rfl (one_of HT_.out (c11_8)) (by decide) (fun K hK => ?_)
           have hs96 : w94.cell? ⟨gb495, 1, none⟩ = some (u496001) := (blk_cell BK495.out 1).trans rfl
           have hfs96 := blk_frozen BK495.out 1
           have hns96_0 := NB490_495.out
           have hns96_1 := NB491_495.out
           have hns96_3 := NB498_495.out
           have hms96_0 := NB495_490.out
           have hms96_1 := NB495_491.out
           have hms96_3 := NB495_498.out
           refine skip_ (w1 := ?_) (by rfl) rfl ?_ ?_
           rotate_left
           ·go_simp
            rfl
           refine hK.out _ _ ?_
           clear hK K
           refine done_ (done_of HT_.out (c11_8)) ?_
           try go_wp2
           go_roundg k2
           case measure => have := HJ3.out; have := HK2.out; omega
           case rel => exact ⟨(false), (wrap64 (x11_2 + 1)), (y513), (.slice Ao95 y513.length co95), (c11_6), (c11_6), H', ⟨by have := HJ3.out; have := HK2.out; omega⟩, ⟨by (with_reducible repeat (first | apply Kd.R_alloc | apply Kd.R_drewN | apply Kd.R_drew)); exact Kd.R_mono (Kd.R_far (p := ⟨gb495, 1, none⟩) (Kd.R_types HO515.out BK495.out (by decide)) (fun _ hk => hk.2) (.slice Ao95 y513.length co95)) (fun _ hk => hk.1)⟩, ⟨c11_1⟩, ⟨c11_2⟩, ⟨c11_0⟩, ⟨c11_3⟩, ⟨G.cB HB.out⟩⟩
          ·rw [if_neg c86] at H
           exact absurd H (by simp)
        ·rw [if_neg c62] at H
         exact absurd H (by simp)
      ·rw [if_neg c49] at H
       have c49b0 : decide (x11_2 < (l0_1.length : Int)) = false := decide_eq_false c49
       clear c49
       by_cases c97 : x10_2 = true
       ·subst c97
        have H1 : (some (a0_0, x496001_2, true)) = some (r1, r2, r3) := by rw [if_pos rfl] at H; exact H
        clear H
        have H := H1
        clear H1
        simp only [Option.some.injEq, Prod.mk.injEq] at H
        obtain ⟨rfl, rfl, rfl⟩ := H
        have hnb98 := NB490_491.out
        have hnc98 := NB491_490.out
        have hnb99 := NB490_495.out
        have hnc99 := NB495_490.out
        have hnb100 := NB490_498.out
        have hnc100 := NB498_490.out
        have hcz101_0 : wr.cell? ⟨gb490, 0, none⟩ = some (.int .i64 a0_0) := (blk_cell BK490.out 0).trans rfl
        have hcz101_1 : wr.cell? ⟨gb490, 1, none⟩ = some (.slice A0_1 l0_1.length c0_1) := (blk_cell BK490.out 1).trans rfl
        have hfz101_0 := blk_frozen BK490.out 0
        have hfz101_1 := blk_frozen BK490.out 1
        have hnb102 := NB495_491.out
        have hnc102 := NB491_495.out
        have hnb103 := NB495_498.out
        have hnc103 := NB498_495.out
        have hcz104_0 : wr.cell? ⟨gb495, 0, none⟩ = some (.int .i64 a0_0) := (blk_cell BK495.out 0).trans rfl
        have hcz104_1 : wr.cell? ⟨gb495, 1, none⟩ = some (u496001) := (blk_cell BK495.out 1).trans rfl
        have hfz104_0 := blk_frozen BK495.out 0
        have hfz104_1 := blk_frozen BK495.out 1
        have hnb105 := NB491_498.out
        have hnc105 := NB498_491.out
        have hcz106_0 : wr.cell? ⟨gb491, 0, none⟩ = some (.int .i64 0) := (blk_cell BK491.out 0).trans rfl
        have hcz106_1 : wr.cell? ⟨gb491, 1, none⟩ = some (.slice none 0 0) := (blk_cell BK491.out 1).trans rfl
        have hfz106_0 := blk_frozen BK491.out 0
        have hfz106_1 := blk_frozen BK491.out 1
        obtain ⟨Ao107, co107, eo107⟩ := Kd.R_slice HO_496001.out
        subst eo107
        go_wp2
        refine bodyPost_ret (results_ct rfl _ _ gb491 29 #[.int .i64 a0_0, .slice Ao107 x496001_2.length co107] (0, 0) _ rfl (by (with_reducible repeat (first | refine blk_drewN ?_ _ | refine blk_drew ?_ | refine blk_alloc ?_ _)); refine blk_put (cs := #[.int .i64 a0_0, .slice none 0 0]) ?_ 1 _ rfl; (with_reducible repeat (first | refine blk_drewN ?_ _ | refine blk_drew ?_ | refine blk_alloc ?_ _)); refine blk_put (cs := #[.int .i64 0, .slice none 0 0]) ?_ 0 _ rfl; (with_reducible repeat (first | refine blk_drewN ?_ _ | refine blk_drew ?_ | refine blk_alloc ?_ _)); exact BK491.out) Try.underlying29 rfl (c11_8)) rfl ?_
        exact ⟨_, by first | rfl | (simp [errW_none, errW_some] <;> rfl) | (simp [*, errW_none, errW_some] <;> rfl), by (with_reducible repeat (first | apply Kd.R_alloc | apply Kd.R_drewN | apply Kd.R_drew)); exact Kd.R_mono (Kd.R_far (p := ⟨gb491, 1, none⟩) (Kd.R_far (p := ⟨gb491, 0, none⟩) (Kd.R_types HO_496001.out BK491.out (by decide)) (fun _ hk => hk.2) (.int .i64 a0_0)) (fun _ hk => hk.2) (.slice Ao107 x496001_2.length co107)) (fun _ hk => trivial), G.cB HB.out⟩
       ·replace c97 := Bool.eq_false_iff.mpr c97
        subst c97
        have H1 : (if x496001_2.length < 8796093022208 then (some (a0_0, (x496001_2 ++ [(⟨t496, t497⟩ : S63)]), true)) else (none)) = some (r1, r2, r3) := by rw [if_neg (show ¬ (false = true) by decide)] at H; exact H
        clear H
        have H := H1
        clear H1
        by_cases c108 : x496001_2.length < 8796093022208
        ·rw [if_pos c108] at H
         have LMc108 := Aside0.mk c108
         clear c108
         obtain ⟨y516, hy516⟩ : ∃ y_ : List (S63), y_ = (x496001_2 ++ [(⟨t496, t497⟩ : S63)]) := ⟨_, rfl⟩
         replace H : (some (a0_0, y516, true)) = some (r1, r2, r3) := by first | (rw [hy516]; with_reducible exact H) | (have H2_ := (Option.bind_some _ _).symm.trans H; rw [hy516]; with_reducible exact H2_) | (have H2_ := (Option.bind_some _ _).symm.trans H; with_reducible exact H2_) | with_reducible exact H | (rw [hy516]; exact H) | exact H
         have Ny516 := Aside0.mk hy516
         clear hy516
         simp only [Option.some.injEq, Prod.mk.injEq] at H
         obtain ⟨rfl, rfl, rfl⟩ := H
         have hnb109 := NB490_491.out
         have hnc109 := NB491_490.out
         have hnb110 := NB490_495.out
         have hnc110 := NB495_490.out
         have hnb111 := NB490_498.out
         have hnc111 := NB498_490.out
         have hcz112_0 : wr.cell? ⟨gb490, 0, none⟩ = some (.int .i64 a0_0) := (blk_cell BK490.out 0).trans rfl
         have hcz112_1 : wr.cell? ⟨gb490, 1, none⟩ = some (.slice A0_1 l0_1.length c0_1) := (blk_cell BK490.out 1).trans rfl
         have hfz112_0 := blk_frozen BK490.out 0
         have hfz112_1 := blk_frozen BK490.out 1
         have hnb113 := NB495_491.out
         have hnc113 := NB491_495.out
         have hnb114 := NB495_498.out
         have hnc114 := NB498_495.out
         have hcz115_0 : wr.cell? ⟨gb495, 0, none⟩ = some (.int .i64 a0_0) := (blk_cell BK495.out 0).trans rfl
         have hcz115_1 : wr.cell? ⟨gb495, 1, none⟩ = some (u496001) := (blk_cell BK495.out 1).trans rfl
         have hfz115_0 := blk_frozen BK495.out 0
         have hfz115_1 := blk_frozen BK495.out 1
         have hnb116 := NB498_491.out
         have hnc116 := NB491_498.out
         have hcz117_0 : wr.cell? ⟨gb498, 0, none⟩ = some (.int .i64 t496) := (blk_cell BK498.out 0).trans rfl
         have hcz117_1 : wr.cell? ⟨gb498, 1, none⟩ = some (.int .i64 t497) := (blk_cell BK498.out 1).trans rfl
         have hfz117_0 := blk_frozen BK498.out 0
         have hfz117_1 := blk_frozen BK498.out 1
         go_wp2_with (first | ((with_reducible refine gate_builtin (b := .append) (xs := #[.tmp 77, .tmp 79]) rfl ?_); at_builtin; refine Kd.R_append k63 (w0 := w) w.heap.size rfl (.tmp 77) (.tmp 79) 27 63 (.agg #[(.int .i64 0), (.int .i64 0)]) 16 rfl Try.underlying27 info63 rfl (by decide) (by omega) u496001 x496001_2 (⟨t496, t497⟩ : S63) [.int .i64 t496, .int .i64 t497] (fun k_ => k_ ≠ gb498) (fun _ => False) rfl rfl ?aP (fun _ hk => hk.elim) ?aF ?aO ?aB ?aS ?aL ?_; (case aP => exact k63_mkM _ _ _ (⟨t496, t497⟩ : S63)); (case aB => exact (G.cB HB.out)); (case aF => exact (fun k_ hk => Kd.freshB (g := gb498) (o := .cells #[.int .i64 t496, .int .i64 t497] 63 (0, 0)) (G.cb BK498.out) k_ hk)); (case aO => exact (G.cR HO_496001.out)); (case aS => exact (below_size (G.cB HB.out))); (case aL => have := LMc108.out; omega); intro v517 w118 ho hb hg hat; rw [← Ny516.out] at ho; have n0_ := Aside0.mk (blk_grown (g := gb490) (o := .cells #[.int .i64 a0_0, .slice A0_1 l0_1.length c0_1] 29 (0, 0)) (G.cb BK490.out) hg (Kd.R_ne HO_496001.out BK490.out (by decide))); have n1_ := Aside0.mk (blk_grown (g := gb491) (o := .cells #[.int .i64 0, .slice none 0 0] 29 (0, 0)) (G.cb BK491.out) hg (Kd.R_ne HO_496001.out BK491.out (by decide))); have n2_ := Aside0.mk (blk_grown (g := gb495) (o := .cells #[.int .i64 a0_0, u496001] 29 (0, 0)) (G.cb BK495.out) hg (Kd.R_ne HO_496001.out BK495.out (by decide))); have n3_ := Aside0.mk (blk_grown (g := gb498) (o := .cells #[.int .i64 t496, .int .i64 t497] 63 (0, 0)) (G.cb BK498.out) hg (Kd.R_away HO_496001.out (fun _ hk => hk))); have n4_ := Aside0.mk (hb); have n5_ := Aside0.mk (ho); clear BK490 BK491 BK495 BK498 HB HO_496001; revert n0_ n1_ n2_ n3_ n4_ n5_; intro BK490 BK491 BK495 BK498 HB HO518; clear ho hb hg hat; obtain ⟨Ao119, co119, eo119⟩ := Kd.R_slice HO518.out; subst eo119; have hcz120_0 : w118.cell? ⟨gb495, 0, none⟩ = some (.int .i64 a0_0) := (blk_cell BK495.out 0).trans rfl; have hcz120_1 : w118.cell? ⟨gb495, 1, none⟩ = some (u496001) := (blk_cell BK495.out 1).trans rfl; have hfz120_0 := blk_frozen BK495.out 0; have hfz120_1 := blk_frozen BK495.out 1; have hcz121_0 : w118.cell? ⟨gb491, 0, none⟩ = some (.int .i64 0) := (blk_cell BK491.out 0).trans rfl; have hcz121_1 : w118.cell? ⟨gb491, 1, none⟩ = some (.slice none 0 0) := (blk_cell BK491.out 1).trans rfl; have hfz121_0 := blk_frozen BK491.out 0; have hfz121_1 := blk_frozen BK491.out 1))
         refine bodyPost_ret (results_ct rfl _ _ gb491 29 #[.int .i64 a0_0, .slice Ao119 y516.length co119] (0, 0) _ rfl (by (with_reducible repeat (first | refine blk_drewN ?_ _ | refine blk_drew ?_ | refine blk_alloc ?_ _)); refine blk_put (cs := #[.int .i64 a0_0, .slice none 0 0]) ?_ 1 _ rfl; (with_reducible repeat (first | refine blk_drewN ?_ _ | refine blk_drew ?_ | refine blk_alloc ?_ _)); refine blk_put (cs := #[.int .i64 0, .slice none 0 0]) ?_ 0 _ rfl; (with_reducible repeat (first | refine blk_drewN ?_ _ | refine blk_drew ?_ | refine blk_alloc ?_ _)); refine blk_far ?_ NB491_495.out _; (with_reducible repeat (first | refine blk_drewN ?_ _ | refine blk_drew ?_ | refine blk_alloc ?_ _)); exact BK491.out) Try.underlying29 rfl (c11_8)) rfl ?_
         exact ⟨_, by first | rfl | (simp [errW_none, errW_some] <;> rfl) | (simp [*, errW_none, errW_some] <;> rfl), by (with_reducible repeat (first | apply Kd.R_alloc | apply Kd.R_drewN | apply Kd.R_drew)); exact Kd.R_mono (Kd.R_far (p := ⟨gb491, 1, none⟩) (Kd.R_far (p := ⟨gb491, 0, none⟩) (Kd.R_far (p := ⟨gb495, 1, none⟩) (Kd.R_types (Kd.R_types HO518.out BK495.out (by decide)) BK491.out (by decide)) (fun _ hk => hk.1.2) (.slice Ao119 y516.length co119)) (fun _ hk => hk.2) (.int .i64 a0_0)) (fun _ hk => hk.2) (.slice Ao119 y516.length co119)) (fun _ hk => trivial), G.cB HB.out⟩
        ·rw [if_neg c108] at H
         exact absurd H (by simp)

end Go.Proofs.Ytbkdpnfjcnkoeaa.P
