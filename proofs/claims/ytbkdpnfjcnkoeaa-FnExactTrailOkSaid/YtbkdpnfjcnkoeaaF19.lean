-- Printed by a program of this session (mp.py, over the kit's print). Not trusted: Lean checks it.
import Derived.Test.YtbkdpnfjcnkoeaaF0
import Derived.Test.YtbkdpnfjcnkoeaaF2
import Derived.Test.YtbkdpnfjcnkoeaaF3
import Derived.Test.YtbkdpnfjcnkoeaaF6
import Derived.Test.YtbkdpnfjcnkoeaaF9
namespace Go.Proofs.Ytbkdpnfjcnkoeaa.P
open Go.RowKit Go.Proofs.YtbkdpnfjcnkoeaaW.PrintWords Go.Proofs.YtbkdpnfjcnkoeaaW.PrintLast Go.Proofs.YtbkdpnfjcnkoeaaW.PrintMore
attribute [local go_sem] max2_int min2_int max_two min_two max_three min_three max_four min_four   -- for this text's walks alone
set_option linter.unusedVariables false
set_option linter.unusedSimpArgs false

theorem c19_0 {p : Prop} (h : p := by (try simp only [List.map_toArray, List.map_cons, List.map_nil]); first | done | (simp only [hji26]; rfl) | rfl | (simp only [List.length_drop, List.length_take]; rfl)) : p := h
theorem c19_1 {p : Prop} (h : p := by rw [hg]; exact Nat.ne_of_lt (blk_lt (g := gb297) (o := .cells #[.int .i64 x298000_2, .slice Ao32 x298001_2.length co32] 29 (0, 0)) (G.cb BK297.out))) : p := h
theorem c19_2 {p : Prop} (h : p := by rw [hg]; exact Nat.ne_of_gt (blk_lt (g := gb297) (o := .cells #[.int .i64 x298000_2, .slice Ao32 x298001_2.length co32] 29 (0, 0)) (G.cb BK297.out))) : p := h
theorem c19_3 {p : Prop} (h : p := by rw [hg]; exact Nat.ne_of_lt (blk_lt (g := gb297) (o := .cells #[.int .i64 x298000_2, .slice Ao45 x298001_2.length co45] 29 (0, 0)) (G.cb BK297.out))) : p := h
theorem c19_4 {p : Prop} (h : p := by rw [hg]; exact Nat.ne_of_gt (blk_lt (g := gb297) (o := .cells #[.int .i64 x298000_2, .slice Ao45 x298001_2.length co45] 29 (0, 0)) (G.cb BK297.out))) : p := h
theorem c19_5 {p : Prop} (h : p := by rw [hg]; exact Nat.ne_of_lt (blk_lt (g := gb289) (o := .cells #[.int .i64 a0_0, .slice A0_1 l0_1.length c0_1] 29 (0, 0)) (G.cb BK289.out))) : p := h
theorem c19_6 {p : Prop} (h : p := by rw [hg]; exact Nat.ne_of_gt (blk_lt (g := gb289) (o := .cells #[.int .i64 a0_0, .slice A0_1 l0_1.length c0_1] 29 (0, 0)) (G.cb BK289.out))) : p := h
theorem c19_7 {p : Prop} (h : p := by (with_reducible repeat (first | apply Kd.R_alloc | apply Kd.R_drewN | apply Kd.R_drew)); exact Kd.R_mono HO_298001.out (fun _ hk => hk.2)) : p := h
theorem c19_8 {p : Prop} (h : p := by (with_reducible repeat (first | apply Kd.R_alloc | apply Kd.R_drewN | apply Kd.R_drew)); exact Kd.R_mono HO303.out (fun _ hk => hk.2)) : p := h
theorem c19_9 {p : Prop} (h : p := by first | rfl | (simp; done) | (simp [*]; done)) : p := h
theorem c19_10 {p : Prop} (h : p := by rw [hg]; exact (below_size (G.cB HB.out))) : p := h
theorem c19_11 {p : Prop} (h : p := by kernel_rfl) : p := h
/-! ### spec_TrailOk: function 19 -/
mutual
def spec_TrailOk.j0 : Nat → List Int → Bool → Int → List (S63) → Option (Bool)
 | 0, _, _, _, _ => none
 | k + 1, x1, x28, x290000, x290001 => if x28 = true then (some false) else ((spec_l1Copy.f x290000 x290001).bind fun bt293 => (spec_TrailOk.l0 k x1 1 bt293.1 bt293.2))
def spec_TrailOk.l0 : Nat → List Int → Int → Int → List (S63) → Option (Bool)
 | 0, _, _, _, _ => none
 | k + 1, x1, x6, x298000, x298001 => if x6 < (x1.length : Int) then (if 0 ≤ (wrap64 (x6 - 1)) then (if (wrap64 (x6 - 1)) < (x1.length : Int) then (if 0 ≤ x6 then ((spec_NetCut.f k x298000 x298001 (rd x1 (wrap64 (x6 - 1))) (rd x1 x6)).bind fun bt300 => (if bt300.2.2 = true then (spec_TrailOk.l0 k x1 (wrap64 (x6 + 1)) bt300.1 bt300.2.1) else (some false))) else (none)) else (none)) else (none)) else (some true)
end
def spec_TrailOk.f (k : Nat) (a0_0 : Int) (l0_1 : List (S63)) (l1 : List Int) : Option (Bool) := (spec_NetOk.f k a0_0 l0_1).bind fun t290 => (if t290 = true then (if (l1.length : Int) = (wrap64 ((l0_1.length : Int) + 1)) then (if 0 < (l1.length : Int) then ((spec_l1Knot.f k a0_0 l0_1 (rd l1 0)).bind fun t292 => (spec_TrailOk.j0 k l1 (!t292) a0_0 l0_1)) else (none)) else (spec_TrailOk.j0 k l1 true a0_0 l0_1)) else (spec_TrailOk.j0 k l1 true a0_0 l0_1))
theorem spec_TrailOk.mono_l : ∀ k, (∀ y0 y1 y2 y3, LeO (spec_TrailOk.j0 k y0 y1 y2 y3) (spec_TrailOk.j0 (k + 1) y0 y1 y2 y3)) ∧ (∀ y0 y1 y2 y3, LeO (spec_TrailOk.l0 k y0 y1 y2 y3) (spec_TrailOk.l0 (k + 1) y0 y1 y2 y3))
 | 0 => ⟨fun _ _ _ _ r h => by simp [spec_TrailOk.j0] at h, fun _ _ _ _ r h => by simp [spec_TrailOk.l0] at h⟩
 | k + 1 => by
  obtain ⟨ih0, ih1⟩ := spec_TrailOk.mono_l k
  refine ⟨?_, ?_⟩
  ·intro y0 y1 y2 y3
   unfold spec_TrailOk.j0
   repeat' first
   | (with_reducible exact ih0 _ _ _ _)
   | (with_reducible exact ih1 _ _ _ _)
   | (with_reducible exact spec_NetCut.mono _ _ _ _ _)
   | (with_reducible exact spec_NetOk.mono _ _ _)
   | (with_reducible exact spec_l1Knot.mono _ _ _ _)
   | (with_reducible exact LeO.refl _)
   | (with_reducible exact LeO.none _)
   | (with_reducible refine LeO.ite ?_ ?_)
   | (with_reducible refine LeO.bind ?_ (fun _ => ?_))
   | exact ih0 _ _ _ _
   | exact ih1 _ _ _ _
   | exact spec_NetCut.mono _ _ _ _ _
   | exact spec_NetOk.mono _ _ _
   | exact spec_l1Knot.mono _ _ _ _
   | exact LeO.none _
   | refine LeO.ite ?_ ?_
   | refine LeO.bind ?_ (fun _ => ?_)
  ·intro y0 y1 y2 y3
   unfold spec_TrailOk.l0
   repeat' first
   | (with_reducible exact ih0 _ _ _ _)
   | (with_reducible exact ih1 _ _ _ _)
   | (with_reducible exact spec_NetCut.mono _ _ _ _ _)
   | (with_reducible exact spec_NetOk.mono _ _ _)
   | (with_reducible exact spec_l1Knot.mono _ _ _ _)
   | (with_reducible exact LeO.refl _)
   | (with_reducible exact LeO.none _)
   | (with_reducible refine LeO.ite ?_ ?_)
   | (with_reducible refine LeO.bind ?_ (fun _ => ?_))
   | exact ih0 _ _ _ _
   | exact ih1 _ _ _ _
   | exact spec_NetCut.mono _ _ _ _ _
   | exact spec_NetOk.mono _ _ _
   | exact spec_l1Knot.mono _ _ _ _
   | exact LeO.none _
   | refine LeO.ite ?_ ?_
   | refine LeO.bind ?_ (fun _ => ?_)
theorem spec_TrailOk.mono : ∀ a0 a1 a2 k, LeO (spec_TrailOk.f k a0 a1 a2) (spec_TrailOk.f (k + 1) a0 a1 a2) := by
 intro a0 a1 a2 k
 obtain ⟨ih0, ih1⟩ := spec_TrailOk.mono_l k
 unfold spec_TrailOk.f
 repeat' first
   | (with_reducible exact ih0 _ _ _ _)
   | (with_reducible exact ih1 _ _ _ _)
   | (with_reducible exact spec_NetCut.mono _ _ _ _ _)
   | (with_reducible exact spec_NetOk.mono _ _ _)
   | (with_reducible exact spec_l1Knot.mono _ _ _ _)
   | (with_reducible exact LeO.refl _)
   | (with_reducible exact LeO.none _)
   | (with_reducible refine LeO.ite ?_ ?_)
   | (with_reducible refine LeO.bind ?_ (fun _ => ?_))
   | exact ih0 _ _ _ _
   | exact ih1 _ _ _ _
   | exact spec_NetCut.mono _ _ _ _ _
   | exact spec_NetOk.mono _ _ _
   | exact spec_l1Knot.mono _ _ _ _
   | exact LeO.none _
   | refine LeO.ite ?_ ?_
   | refine LeO.bind ?_ (fun _ => ?_)
def spec_TrailOk.T1 : Bool × List (List Nat × List Nat) := (true, [([], []), ([0], [0]), ([1], [1]), ([2, 1], [2]), ([3], [3]), ([4, 3], [3, 4]), ([3], [3]), ([6, 3], [3, 6]), ([7, 3], [3, 7]), ([8, 3], [3, 8]), ([5, 9, 3], [3, 5, 9]), ([3, 10], [3, 10]), ([11, 3], [11]), ([12], [12]), ([12], [12]), ([14, 12], [12, 14]), ([15, 12], [12, 15]), ([13, 16, 12, 12], [12, 13, 16]), ([17, 12], [12, 17]), ([12, 18], [12, 18])])
def spec_TrailOk.B1 : List Nat := [0, 1, 3, 7, 15, 31, 15, 79, 207, 463, 1023, 2047, 4095, 8191, 8191, 24575, 57343, 131071, 262143, 524287]
theorem spec_TrailOk.tab1 : rtab .any (opsOf Try.f19 1) = spec_TrailOk.T1 := by kernel_rfl
theorem spec_TrailOk.bits1 : waitsOk spec_TrailOk.T1.2 spec_TrailOk.B1 = true := by kernel_rfl
def spec_TrailOk.T7 : Bool × List (List Nat × List Nat) := (true, [([], []), ([], []), ([], []), ([2], [2]), ([1, 3], [1, 3]), ([4], [4]), ([], []), ([], []), ([6, 7], [6, 7]), ([8], [8]), ([0, 5, 9], [0, 5, 9]), ([10], [10]), ([11], [11]), ([11], [11]), ([], []), ([14, 12, 10, 0, 1, 2, 3, 4, 5, 6, 7, 8, 9, 10, 11, 12, 14], [12, 14]), ([13, 15, 0, 1, 2, 3, 4, 5, 6, 7, 8, 9, 10, 11, 12, 13, 14, 15], [13])])
def spec_TrailOk.B7 : List Nat := [0, 0, 0, 4, 14, 30, 0, 0, 192, 448, 1023, 2047, 4095, 4095, 0, 24575, 65535]
theorem spec_TrailOk.tab7 : rtab .any (opsOf Try.f19 7) = spec_TrailOk.T7 := by kernel_rfl
theorem spec_TrailOk.bits7 : waitsOk spec_TrailOk.T7.2 spec_TrailOk.B7 = true := by kernel_rfl
set_option maxHeartbeats 8000000 in
set_option maxRecDepth 100000 in
theorem spec_TrailOk.calls (k : Nat) (a0_0 : Int) (A0_1 : Option Addr) (c0_1 : Nat) (l0_1 : List (S63)) (A1 : Option Addr) (c1 : Nat) (l1 : List Int) (r : Bool) (w : World) (hr0_1 : Kd.C k63 w A0_1 l0_1.length l0_1) (hc0_1 : l0_1.length ≤ c0_1) (hr1 : Kd.C (Kd.int .i64) w A1 l1.length l1) (hc1 : l1.length ≤ c1) (h : spec_TrailOk.f k a0_0 l0_1 l1 = some r) :
  Calls Try.prog 19 #[.agg #[.int .i64 a0_0, .slice A0_1 l0_1.length c0_1], .slice A1 l1.length c1] w fun e w' => e = .returned (.bool r) ∧ Below w.heap.size w w' := by
 have hu29 := Try.underlying29
 have HR0_1 := Aside0.mk hr0_1
 have HC0_1 := Aside0.mk hc0_1
 clear hr0_1 hc0_1
 have HR1 := Aside0.mk hr1
 have HC1 := Aside0.mk hc1
 clear hr1 hc1
 have HB := Aside0.mk (Below.refl w.heap.size w)
 have H : ((spec_NetOk.f k a0_0 l0_1).bind fun t290 => (if t290 = true then (if (l1.length : Int) = (wrap64 ((l0_1.length : Int) + 1)) then (if 0 < (l1.length : Int) then ((spec_l1Knot.f k a0_0 l0_1 (rd l1 0)).bind fun t292 => (spec_TrailOk.j0 k l1 (!t292) a0_0 l0_1)) else (none)) else (spec_TrailOk.j0 k l1 true a0_0 l0_1)) else (spec_TrailOk.j0 k l1 true a0_0 l0_1))) = some r := h
 clear h
 have HC3 := Aside0.mk H
 clear H
 go_enter Try.func19, Try.ntmps19
 go_upto_region 1 with (first | ((with_reducible refine gate_dst (N := 2) rfl ?_); (try (refine gate_guard (by rfl) ?_; dsimp only)); refine G.be 2 #[.int .i64 a0_0, .slice A0_1 l0_1.length c0_1] 29 ?_; intro gb289 hg w4 hbox hb; have n0_ := Aside0.mk (below_step (G.cB HB.out) hb); have n1_ := Aside0.mk (hbox); have n2_ := Aside0.mk ((c19_10 : w.heap.size ≤ gb289)); have n3_ := Aside0.mk ((c19_10 : w.heap.size ≤ gb289)); clear HB; revert n0_ n1_ n2_ n3_; intro HB BK289 GW289 GE289; clear hb hbox hg))
 (try simp only [Act.put, List.setIfInBounds_toArray, List.set_cons_zero, List.set_cons_succ])
 go_cut [28] (fun v28 wc => ∃ (kq : Nat) (x28_2 : Bool), v28 = .bool x28_2 ∧ Aside0 (spec_TrailOk.j0 kq l1 x28_2 a0_0 l0_1 = some r) ∧ Aside0 (kq ≤ k) ∧ Aside0 (wc.heap[gb289]? = some (.cells #[.int .i64 a0_0, (.slice A0_1 l0_1.length c0_1)] 29 (0, 0))) ∧ Aside0 (Below w.heap.size w wc))
 case first =>
  have H := HC3.out
  clear HC3
  replace H := Option.bind_eq_some_iff.mp H
  obtain ⟨t290, A50, H⟩ := H
  replace H : (if t290 = true then (if (l1.length : Int) = (wrap64 ((l0_1.length : Int) + 1)) then (if 0 < (l1.length : Int) then ((spec_l1Knot.f k a0_0 l0_1 (rd l1 0)).bind fun t292 => (spec_TrailOk.j0 k l1 (!t292) a0_0 l0_1)) else (none)) else (spec_TrailOk.j0 k l1 true a0_0 l0_1)) else (spec_TrailOk.j0 k l1 true a0_0 l0_1)) = some r := H
  have A5 := Aside0.mk A50
  clear A50
  by_cases c6 : t290 = true
  ·subst c6
   have H1 : (if (l1.length : Int) = (wrap64 ((l0_1.length : Int) + 1)) then (if 0 < (l1.length : Int) then ((spec_l1Knot.f k a0_0 l0_1 (rd l1 0)).bind fun t292 => (spec_TrailOk.j0 k l1 (!t292) a0_0 l0_1)) else (none)) else (spec_TrailOk.j0 k l1 true a0_0 l0_1)) = some r := by rw [if_pos rfl] at H; exact H
   clear H
   have H := H1
   clear H1
   by_cases c7 : (l1.length : Int) = (wrap64 ((l0_1.length : Int) + 1))
   ·rw [if_pos c7] at H
    have c7b0 : ((l1.length : Int) == (wrap64 ((l0_1.length : Int) + 1))) = true := beq_iff_eq.mpr c7
    have c7b1 : ((l1.length : Int) != (wrap64 ((l0_1.length : Int) + 1))) = false := bne_eq_false_iff_eq.mpr c7
    clear c7
    (first | rw [c7b0] | (simp only [i64_w, i32_w]; rw [c7b0]) | skip)
    by_cases c8 : 0 < (l1.length : Int)
    ·rw [if_pos c8] at H
     have c8b0 : decide (0 < (l1.length : Int)) = true := decide_eq_true c8
     have c8b1 : decide (0 < l1.length) = true := decide_eq_true (by omega)
     clear c8
     replace H := Option.bind_eq_some_iff.mp H
     obtain ⟨t292, A90, H⟩ := H
     replace H : (spec_TrailOk.j0 k l1 (!t292) a0_0 l0_1) = some r := H
     have A9 := Aside0.mk A90
     clear A90
     have H' := Aside0.mk H
     clear H
     try go_wp2
     have n0_ := Aside0.mk (blk_drew BK289.out)
     have n1_ := Aside0.mk (below_drew1 HB.out)
     clear BK289 HB
     revert n0_ n1_
     intro BK289 HB
     have p291 : 0 ≤ (0 : Int) := (by omega)
     have q291 : 0 < (l1.length : Int) := of_decide_eq_true (G.asm)
     obtain ⟨ad291, e291, hx291_0⟩ := Kd.at_int HR1.out 0 p291 q291
     have hw291_0 := hx291_0
     (try rw [show ((0 : Int)).toNat = 0 from rfl] at hw291_0)
     (try rw [show 0 * 1 = 0 from rfl] at hw291_0)
     (try rw [Addr.add_zero'] at hw291_0)
     cases e291
     have qi291 : (0 < l1.length) = True := eq_true (by omega)
     (try rw [show ((0 : Int)).toNat = 0 from rfl] at hx291_0)
     (try rw [Addr.add_zero'] at hx291_0)
     replace hx291_0 := (HB.out.cell (World.block_lt_of_cell? w _ hx291_0)).trans hx291_0
     replace p291 := eq_true p291
     replace q291 := eq_true q291
     refine start_ (n := 20) (S := fun w' => w'.cell? ⟨gb289, 0, none⟩ = some (.int .i64 a0_0) ∧ w'.cell? ⟨gb289, 1, none⟩ = some (.slice A0_1 l0_1.length c0_1) ∧ w'.cell? ad291 = some (.int .i64 (rd l1 0))) (ds := []) (G.fl 20 0) (c19_11) rfl (c19_11) ⟨(blk_cell BK289.out 0).trans rfl, (blk_cell BK289.out 1).trans rfl, ((HB.out.cell (World.block_lt_of_cell? w _ hw291_0)).trans hw291_0)⟩ (fun hHeld => ?_); refine with_tabW spec_TrailOk.tab1 spec_TrailOk.bits1 (fun HT_ HW_ => ?_)
     generalize w4.drew = w10 at BK289 HB hx291_0 hHeld ⊢
     refine G.ta3 0 (some 9) (G.fl 20 1) ?_
     refine one_ (i := 1) (N := some 10) (G.fl 20 3) rfl rfl (one_of HT_.out (c19_11)) (by decide) (fun K hK => ?_)
     refine goes_ Try.func46 (c19_11) rfl #[.agg #[.int .i64 a0_0, .slice A0_1 l0_1.length c0_1]] (by rfl) rfl rfl (G.ar) ?_
     with_reducible refine (spec_NetOk.calls k a0_0 _ _ l0_1 true _ ?side1 ?side2 A5.out).mono ?_
     (case side1 => repeat (first | exact (Kd.C_below HR0_1.out HB.out) | (with_reducible refine Kd.C_alloc ?_ _) | (with_reducible refine Kd.C_drewN ?_ _) | (with_reducible refine Kd.C_drew ?_)))
     (case side2 => exact HC0_1.out)
     rintro e w11 ⟨rfl, hb⟩
     refine ⟨_, rfl, ?_⟩
     have n0_ := Aside0.mk (blk_below (g := gb289) (o := .cells #[.int .i64 a0_0, .slice A0_1 l0_1.length c0_1] 29 (0, 0)) (G.cb BK289.out) hb)
     have n1_ := Aside0.mk (below_step (G.cB HB.out) hb)
     clear BK289 HB
     revert n0_ n1_
     intro BK289 HB
     (try clear hb)
     (try clear hb2)
     (try clear hk)
     (try clear hi)
     refine hK.out _ _ ⟨(blk_cell BK289.out 0).trans rfl, (blk_cell BK289.out 1).trans rfl, ((HB.out.cell (World.block_lt_of_cell? w _ hw291_0)).trans hw291_0)⟩ (fun hHeld => ?_)
     clear hK K
     refine G.no (some 10) ?_
     refine G.pu 2 (some 11) (G.fl 20 7) ?_
     refine G.pu 3 (some 12) (G.fl 20 15) ?_
     refine G.pu 4 (some 13) (G.fl 20 31) ?_
     refine G.pu 5 (some 14) (G.fl 20 63) ?_
     refine G.pu 6 (some 15) (G.fl 20 127) ?_
     refine G.ta3 7 (some 16) (G.fl 20 255) ?_
     refine G.pu 8 (some 17) (G.fl 20 511) ?_
     refine G.pu 9 (some 18) (G.fl 20 1023) ?_
     refine G.pu 10 (some 19) (G.fl 20 2047) ?_
     refine G.pu 11 (some 20) (G.fl 20 4095) ?_
     refine G.pu 12 (some 21) (G.fl 20 8191) ?_
     refine G.pu 14 (some 23) (G.fl 20 24575) ?_
     refine G.pu 15 (some 24) (G.fl 20 57343) ?_
     refine G.ta3 13 (some 22) (G.fl 20 65535) ?_
     refine G.ta3 16 (some 25) (G.fl 20 131071) ?_
     refine one_ (i := 17) (N := some 26) (G.fl 20 262143) rfl rfl (one_of HT_.out (c19_11)) (by decide) (fun K hK => ?_)
     refine goes_ Try.func38 (c19_11) rfl #[.agg #[.int .i64 a0_0, .slice A0_1 l0_1.length c0_1], .int .i64 (rd l1 0)] (by rfl) rfl rfl (G.ar) ?_
     with_reducible refine (spec_l1Knot.calls k a0_0 _ _ l0_1 (rd l1 0) t292 _ ?side1 ?side2 A9.out).mono ?_
     (case side1 => repeat (first | exact (Kd.C_below HR0_1.out HB.out) | (with_reducible refine Kd.C_alloc ?_ _) | (with_reducible refine Kd.C_drewN ?_ _) | (with_reducible refine Kd.C_drew ?_)))
     (case side2 => exact HC0_1.out)
     rintro e w12 ⟨rfl, hb⟩
     refine ⟨_, rfl, ?_⟩
     have n0_ := Aside0.mk (blk_below (g := gb289) (o := .cells #[.int .i64 a0_0, .slice A0_1 l0_1.length c0_1] 29 (0, 0)) (G.cb BK289.out) hb)
     have n1_ := Aside0.mk (below_step (G.cB HB.out) hb)
     clear BK289 HB
     revert n0_ n1_
     intro BK289 HB
     (try clear hb)
     (try clear hb2)
     (try clear hk)
     (try clear hi)
     refine hK.out _ _ ⟨(blk_cell BK289.out 0).trans rfl, (blk_cell BK289.out 1).trans rfl, ((HB.out.cell (World.block_lt_of_cell? w _ hw291_0)).trans hw291_0)⟩ (fun hHeld => ?_)
     clear hK K
     refine G.no (some 26) ?_
     refine G.pu 18 (some 27) (G.fl 20 524287) ?_
     refine G.pu 19 (some 28) (G.fl 20 1048575) ?_
     refine done_ (done_of HT_.out (c19_11)) ?_
     try go_wp2
     go_meet
     case rel => exact ⟨_, (!t292), (c19_9), H', ⟨by first | omega | exact Nat.le_refl _⟩, ⟨G.cb BK289.out⟩, ⟨G.cB HB.out⟩⟩
    ·rw [if_neg c8] at H
     exact absurd H (by simp)
   ·rw [if_neg c7] at H
    have c7b0 : ((l1.length : Int) == (wrap64 ((l0_1.length : Int) + 1))) = false := beq_eq_false_iff_ne.mpr c7
    have c7b1 : ((l1.length : Int) != (wrap64 ((l0_1.length : Int) + 1))) = true := bne_iff_ne.mpr c7
    (first | rw [c7b0] | (simp only [i64_w, i32_w]; rw [c7b0]) | skip)
    have H' := Aside0.mk H
    clear H
    try go_wp2
    have n0_ := Aside0.mk (blk_drew BK289.out)
    have n1_ := Aside0.mk (below_drew1 HB.out)
    clear BK289 HB
    revert n0_ n1_
    intro BK289 HB
    refine start_ (n := 20) (S := fun w' => w'.cell? ⟨gb289, 0, none⟩ = some (.int .i64 a0_0) ∧ w'.cell? ⟨gb289, 1, none⟩ = some (.slice A0_1 l0_1.length c0_1)) (ds := []) (G.fl 20 0) (c19_11) rfl (c19_11) ⟨(blk_cell BK289.out 0).trans rfl, (blk_cell BK289.out 1).trans rfl⟩ (fun hHeld => ?_); refine with_tabW spec_TrailOk.tab1 spec_TrailOk.bits1 (fun HT_ HW_ => ?_)
    generalize w4.drew = w13 at BK289 HB hHeld ⊢
    refine G.ta2 0 (some 9) (G.fl 20 1) ?_
    refine one_ (i := 1) (N := some 10) (G.fl 20 3) rfl rfl (one_of HT_.out (c19_11)) (by decide) (fun K hK => ?_)
    refine goes_ Try.func46 (c19_11) rfl #[.agg #[.int .i64 a0_0, .slice A0_1 l0_1.length c0_1]] (by rfl) rfl rfl (G.ar) ?_
    with_reducible refine (spec_NetOk.calls k a0_0 _ _ l0_1 true _ ?side1 ?side2 A5.out).mono ?_
    (case side1 => repeat (first | exact (Kd.C_below HR0_1.out HB.out) | (with_reducible refine Kd.C_alloc ?_ _) | (with_reducible refine Kd.C_drewN ?_ _) | (with_reducible refine Kd.C_drew ?_)))
    (case side2 => exact HC0_1.out)
    rintro e w14 ⟨rfl, hb⟩
    refine ⟨_, rfl, ?_⟩
    have n0_ := Aside0.mk (blk_below (g := gb289) (o := .cells #[.int .i64 a0_0, .slice A0_1 l0_1.length c0_1] 29 (0, 0)) (G.cb BK289.out) hb)
    have n1_ := Aside0.mk (below_step (G.cB HB.out) hb)
    clear BK289 HB
    revert n0_ n1_
    intro BK289 HB
    (try clear hb)
    (try clear hb2)
    (try clear hk)
    (try clear hi)
    refine hK.out _ _ ⟨(blk_cell BK289.out 0).trans rfl, (blk_cell BK289.out 1).trans rfl⟩ (fun hHeld => ?_)
    clear hK K
    refine G.no (some 10) ?_
    refine G.pu 2 (some 11) (G.fl 20 7) ?_
    refine G.pu 3 (some 12) (G.fl 20 15) ?_
    refine G.pu 4 (some 13) (G.fl 20 31) ?_
    refine G.pu 5 (some 14) (G.fl 20 63) ?_
    refine G.pu 6 (some 15) (G.fl 20 127) ?_
    refine G.ta2 7 (some 16) (G.fl 20 255) ?_
    refine G.pu 8 (some 17) (G.fl 20 511) ?_
    refine G.pu 9 (some 18) (G.fl 20 1023) ?_
    refine G.pu 10 (some 19) (G.fl 20 2047) ?_
    refine G.pu 11 (some 20) (G.fl 20 4095) ?_
    refine G.pu 12 (some 21) (G.fl 20 8191) ?_
    refine G.pf 13 (some 22) (G.fl 20 16383) ?_
    refine G.pf 14 (some 23) (G.fl 20 32767) ?_
    refine G.pf 15 (some 24) (G.fl 20 65535) ?_
    refine G.pf 16 (some 25) (G.fl 20 131071) ?_
    refine G.pf 17 (some 26) (G.fl 20 262143) ?_
    refine G.pf 18 (some 27) (G.fl 20 524287) ?_
    refine G.pu 19 (some 28) (G.fl 20 1048575) ?_
    refine done_ (done_of HT_.out (c19_11)) ?_
    try go_wp2
    go_meet
    case rel => exact ⟨_, (true), (c19_9), H', ⟨by first | omega | exact Nat.le_refl _⟩, ⟨G.cb BK289.out⟩, ⟨G.cB HB.out⟩⟩
  ·replace c6 := Bool.eq_false_iff.mpr c6
   subst c6
   have H1 : (spec_TrailOk.j0 k l1 true a0_0 l0_1) = some r := by rw [if_neg (show ¬ (false = true) by decide)] at H; exact H
   clear H
   have H := H1
   clear H1
   have H' := Aside0.mk H
   clear H
   try go_wp2
   have n0_ := Aside0.mk (blk_drew BK289.out)
   have n1_ := Aside0.mk (below_drew1 HB.out)
   clear BK289 HB
   revert n0_ n1_
   intro BK289 HB
   refine start_ (n := 20) (S := fun w' => w'.cell? ⟨gb289, 0, none⟩ = some (.int .i64 a0_0) ∧ w'.cell? ⟨gb289, 1, none⟩ = some (.slice A0_1 l0_1.length c0_1)) (ds := []) (G.fl 20 0) (c19_11) rfl (c19_11) ⟨(blk_cell BK289.out 0).trans rfl, (blk_cell BK289.out 1).trans rfl⟩ (fun hHeld => ?_); refine with_tabW spec_TrailOk.tab1 spec_TrailOk.bits1 (fun HT_ HW_ => ?_)
   generalize w4.drew = w15 at BK289 HB hHeld ⊢
   refine G.ta2 0 (some 9) (G.fl 20 1) ?_
   refine one_ (i := 1) (N := some 10) (G.fl 20 3) rfl rfl (one_of HT_.out (c19_11)) (by decide) (fun K hK => ?_)
   refine goes_ Try.func46 (c19_11) rfl #[.agg #[.int .i64 a0_0, .slice A0_1 l0_1.length c0_1]] (by rfl) rfl rfl (G.ar) ?_
   with_reducible refine (spec_NetOk.calls k a0_0 _ _ l0_1 false _ ?side1 ?side2 A5.out).mono ?_
   (case side1 => repeat (first | exact (Kd.C_below HR0_1.out HB.out) | (with_reducible refine Kd.C_alloc ?_ _) | (with_reducible refine Kd.C_drewN ?_ _) | (with_reducible refine Kd.C_drew ?_)))
   (case side2 => exact HC0_1.out)
   rintro e w16 ⟨rfl, hb⟩
   refine ⟨_, rfl, ?_⟩
   have n0_ := Aside0.mk (blk_below (g := gb289) (o := .cells #[.int .i64 a0_0, .slice A0_1 l0_1.length c0_1] 29 (0, 0)) (G.cb BK289.out) hb)
   have n1_ := Aside0.mk (below_step (G.cB HB.out) hb)
   clear BK289 HB
   revert n0_ n1_
   intro BK289 HB
   (try clear hb)
   (try clear hb2)
   (try clear hk)
   (try clear hi)
   refine hK.out _ _ ⟨(blk_cell BK289.out 0).trans rfl, (blk_cell BK289.out 1).trans rfl⟩ (fun hHeld => ?_)
   clear hK K
   refine G.no (some 10) ?_
   refine G.pu 2 (some 11) (G.fl 20 7) ?_
   refine G.pu 3 (some 12) (G.fl 20 15) ?_
   refine G.pf 4 (some 13) (G.fl 20 31) ?_
   refine G.pf 5 (some 14) (G.fl 20 63) ?_
   refine G.pf 6 (some 15) (G.fl 20 127) ?_
   refine G.pf 7 (some 16) (G.fl 20 255) ?_
   refine G.pf 8 (some 17) (G.fl 20 511) ?_
   refine G.pf 9 (some 18) (G.fl 20 1023) ?_
   refine G.pf 10 (some 19) (G.fl 20 2047) ?_
   refine G.pu 11 (some 20) (G.fl 20 4095) ?_
   refine G.pu 12 (some 21) (G.fl 20 8191) ?_
   refine G.pf 13 (some 22) (G.fl 20 16383) ?_
   refine G.pf 14 (some 23) (G.fl 20 32767) ?_
   refine G.pf 15 (some 24) (G.fl 20 65535) ?_
   refine G.pf 16 (some 25) (G.fl 20 131071) ?_
   refine G.pf 17 (some 26) (G.fl 20 262143) ?_
   refine G.pf 18 (some 27) (G.fl 20 524287) ?_
   refine G.pu 19 (some 28) (G.fl 20 1048575) ?_
   refine done_ (done_of HT_.out (c19_11)) ?_
   try go_wp2
   go_meet
   case rel => exact ⟨_, (true), (c19_9), H', ⟨by first | omega | exact Nat.le_refl _⟩, ⟨G.cb BK289.out⟩, ⟨G.cB HB.out⟩⟩
 case rest =>
  clear HC3
  (try clear c1); (try clear p2); (try clear q2); (try clear hx2); (try clear qi2); (try clear c3); (try clear c4); (try clear c6); (try clear p6); (try clear c7); (try clear c7b0); (try clear c7b1); (try clear c8); (try clear c8b0); (try clear c8b1); (try clear hx291_0); (try clear p291); (try clear q291)
  obtain ⟨kq, x28_2, rfl, HA, HJ2, BK289, HB⟩ := hcut
  cases kq with
  | zero => exact absurd HA.out (by simp [spec_TrailOk.j0])
  | succ kj2 =>
   have H := HA.out
   clear HA
   simp only [spec_TrailOk.j0] at H
   by_cases c17 : x28_2 = true
   ·subst c17
    have H1 : (some false) = some r := by rw [if_pos rfl] at H; exact H
    clear H
    have H := H1
    clear H1
    obtain rfl := Option.some.inj H
    go_wp2
    go_ret
    exact ⟨by first | rfl | (simp [errW_none, errW_some] <;> rfl) | (simp [*, errW_none, errW_some] <;> rfl), G.cB HB.out⟩
   ·replace c17 := Bool.eq_false_iff.mpr c17
    subst c17
    have H1 : ((spec_l1Copy.f a0_0 l0_1).bind fun bt293 => (spec_TrailOk.l0 kj2 l1 1 bt293.1 bt293.2)) = some r := by rw [if_neg (show ¬ (false = true) by decide)] at H; exact H
    clear H
    have H := H1
    clear H1
    replace H := Option.bind_eq_some_iff.mp H
    obtain ⟨⟨t293, t294⟩, A180, H⟩ := H
    replace H : (spec_TrailOk.l0 kj2 l1 1 t293 t294) = some r := H
    have A18 := Aside0.mk A180
    clear A180
    have H' := Aside0.mk H
    clear H
    have hcz19_0 : wc.cell? ⟨gb289, 0, none⟩ = some (.int .i64 a0_0) := (blk_cell BK289.out 0).trans rfl
    have hcz19_1 : wc.cell? ⟨gb289, 1, none⟩ = some (.slice A0_1 l0_1.length c0_1) := (blk_cell BK289.out 1).trans rfl
    have hfz19_0 := blk_frozen BK289.out 0
    have hfz19_1 := blk_frozen BK289.out 1
    go_wp2_with (first | ((with_reducible refine gate_callee (f := 47) rfl ?_); refine goesL_ (some 30) rfl rfl Try.func47 (c19_11) rfl #[.agg #[.int .i64 a0_0, .slice A0_1 l0_1.length c0_1]] rfl (G.ar) ?_; (with_reducible refine (spec_l1Copy.calls a0_0 _ _ l0_1 t293 t294 _ ?side1 ?side2 A18.out).mono ?_); (case side1 => repeat (first | exact (Kd.C_below HR0_1.out HB.out) | (with_reducible refine Kd.C_alloc ?_ _) | (with_reducible refine Kd.C_drewN ?_ _) | (with_reducible refine Kd.C_drew ?_))); (case side2 => exact HC0_1.out); rintro e w20 ⟨v295, rfl, ho0, hb⟩; refine ⟨_, rfl, ?_⟩; have n0_ := Aside0.mk (Kd.R_lower ho0 (below_size (G.cB HB.out))); have n1_ := Aside0.mk (blk_below (g := gb289) (o := .cells #[.int .i64 a0_0, .slice A0_1 l0_1.length c0_1] 29 (0, 0)) (G.cb BK289.out) hb); have n2_ := Aside0.mk (below_step (G.cB HB.out) hb); clear BK289 HB; revert n0_ n1_ n2_; intro HO296 BK289 HB; (try clear hb); (try clear hb2); (try clear hk); (try clear hi); (try clear ho0)) | ((with_reducible refine gate_dst (N := 5) rfl ?_); (try (refine gate_guard (by rfl) ?_; dsimp only)); refine G.be 5 #[.int .i64 0, .slice none 0 0] 29 ?_; intro gb297 hg w21 hbox hb; have n0_ := Aside0.mk (Kd.R_below (G.cR HO296.out) hb); have n1_ := Aside0.mk (blk_below (g := gb289) (o := .cells #[.int .i64 a0_0, .slice A0_1 l0_1.length c0_1] 29 (0, 0)) (G.cb BK289.out) hb); have n2_ := Aside0.mk (below_step (G.cB HB.out) hb); have n3_ := Aside0.mk (hbox); have n4_ := Aside0.mk ((c19_10 : w.heap.size ≤ gb297)); have n5_ := Aside0.mk ((c19_10 : w.heap.size ≤ gb297)); have n6_ := Aside0.mk ((c19_5 : gb289 ≠ gb297)); have n7_ := Aside0.mk ((c19_6 : gb297 ≠ gb289)); clear HO296 BK289 HB; revert n0_ n1_ n2_ n3_ n4_ n5_ n6_ n7_; intro HO296 BK289 HB BK297 GW297 GE297 NB289_297 NB297_289; clear hb hbox hg; have hnb22 := NB297_289.out; have hnc22 := NB289_297.out; have hcz23_0 : w21.cell? ⟨gb297, 0, none⟩ = some (.int .i64 0) := (blk_cell BK297.out 0).trans rfl; have hcz23_1 : w21.cell? ⟨gb297, 1, none⟩ = some (.slice none 0 0) := (blk_cell BK297.out 1).trans rfl; have hfz23_0 := blk_frozen BK297.out 0; have hfz23_1 := blk_frozen BK297.out 1; obtain ⟨Ao24, co24, eo24⟩ := Kd.R_slice HO296.out; subst eo24))
    go_loopg [6] kj2 (fun kq v6 w' => ∃ (x6_2 : Int) (x298000_2 : Int) (x298001_2 : List (S63)) (u298001 : Value), v6 = .int .i64 x6_2 ∧ Aside0 (spec_TrailOk.l0 kq l1 x6_2 x298000_2 x298001_2 = some r) ∧ Aside0 (kq ≤ kj2) ∧ Aside0 (Kd.R k63 63 w' w.heap.size (fun _ => True) u298001 x298001_2) ∧ Aside0 (w'.heap[gb289]? = some (.cells #[.int .i64 a0_0, (.slice A0_1 l0_1.length c0_1)] 29 (0, 0))) ∧ Aside0 (w'.heap[gb297]? = some (.cells #[.int .i64 x298000_2, u298001] 29 (0, 0))) ∧ Aside0 (Below w.heap.size w w'))
    case atStart => exact ⟨(1), (t293), (t294), (.slice Ao24 t294.length co24), (c19_9), H', ⟨Nat.le_refl _⟩, ⟨by (with_reducible repeat (first | apply Kd.R_alloc | apply Kd.R_drewN | apply Kd.R_drew)); exact Kd.R_mono (Kd.R_far (p := ⟨gb297, 1, none⟩) (Kd.R_far (p := ⟨gb297, 0, none⟩) (Kd.R_types HO296.out BK297.out (by decide)) (fun _ hk => hk.2) (.int .i64 t293)) (fun _ hk => hk.2) (.slice Ao24 t294.length co24)) (fun _ hk => trivial)⟩, ⟨by (with_reducible repeat (first | refine blk_drewN ?_ _ | refine blk_drew ?_ | refine blk_alloc ?_ _)); refine blk_far ?_ NB289_297.out _; (with_reducible repeat (first | refine blk_drewN ?_ _ | refine blk_drew ?_ | refine blk_alloc ?_ _)); refine blk_far ?_ NB289_297.out _; (with_reducible repeat (first | refine blk_drewN ?_ _ | refine blk_drew ?_ | refine blk_alloc ?_ _)); exact BK289.out⟩, ⟨by (with_reducible repeat (first | refine blk_drewN ?_ _ | refine blk_drew ?_ | refine blk_alloc ?_ _)); refine blk_put (cs := #[.int .i64 t293, .slice none 0 0]) ?_ 1 _ rfl; (with_reducible repeat (first | refine blk_drewN ?_ _ | refine blk_drew ?_ | refine blk_alloc ?_ _)); refine blk_put (cs := #[.int .i64 0, .slice none 0 0]) ?_ 0 _ rfl; (with_reducible repeat (first | refine blk_drewN ?_ _ | refine blk_drew ?_ | refine blk_alloc ?_ _)); exact BK297.out⟩, ⟨G.cB HB.out⟩⟩
    case round =>
     clear H'
     (try clear c1); (try clear c2); (try clear p2); (try clear q2); (try clear hx2); (try clear qi2); (try clear c3); (try clear c4); (try clear c6); (try clear p6); (try clear c7); (try clear c7b0); (try clear c7b1); (try clear c8); (try clear c8b0); (try clear c8b1); (try clear c17); (try clear c22); (try clear hcz19_0); (try clear hcz19_1); (try clear hcz23_0); (try clear hcz23_1); (try clear hfz19_0); (try clear hfz19_1); (try clear hfz23_0); (try clear hfz23_1); (try clear hx291_0); (try clear p2); (try clear p291); (try clear p6); (try clear q2); (try clear q291)
     obtain ⟨x6_2, x298000_2, x298001_2, u298001, rfl, HA, HK2, HO_298001, BK289, BK297, HB⟩ := hrel
     cases gk with
     | zero => exact absurd HA.out (by simp [spec_TrailOk.l0])
     | succ k2 =>
      have H := HA.out
      clear HA
      simp only [spec_TrailOk.l0] at H
      by_cases c25 : x6_2 < (l1.length : Int)
      ·rw [if_pos c25] at H
       have c25b0 : decide (x6_2 < (l1.length : Int)) = true := decide_eq_true c25
       clear c25
       obtain ⟨ji26, hji26⟩ : ∃ j_ : Int, (wrap64 (x6_2 - 1)) = j_ := ⟨_, rfl⟩
       replace H : (if 0 ≤ (ji26) then (if (ji26) < (l1.length : Int) then (if 0 ≤ x6_2 then ((spec_NetCut.f k2 x298000_2 x298001_2 (rd l1 (ji26)) (rd l1 x6_2)).bind fun bt300 => (if bt300.2.2 = true then (spec_TrailOk.l0 k2 l1 (wrap64 (x6_2 + 1)) bt300.1 bt300.2.1) else (some false))) else (none)) else (none)) else (none)) = some r := by first | (rw [hji26] at H; exact H) | (simp only [hji26] at H ⊢; exact H)
       have hji26w : (IntKind.i64.wrap (x6_2 - 1)) = ji26 := (i64_w _).trans hji26
       by_cases c27 : 0 ≤ (ji26)
       ·rw [if_pos c27] at H
        have c27b0 : decide (0 ≤ (ji26)) = true := decide_eq_true c27
        clear c27
        by_cases c28 : (ji26) < (l1.length : Int)
        ·rw [if_pos c28] at H
         have c28b0 : decide ((ji26) < (l1.length : Int)) = true := decide_eq_true c28
         clear c28
         by_cases c29 : 0 ≤ x6_2
         ·rw [if_pos c29] at H
          have c29b0 : decide (0 ≤ x6_2) = true := decide_eq_true c29
          clear c29
          replace H := Option.bind_eq_some_iff.mp H
          obtain ⟨⟨t300, t301, t304⟩, A300, H⟩ := H
          replace H : (if t304 = true then (spec_TrailOk.l0 k2 l1 (wrap64 (x6_2 + 1)) t300 t301) else (some false)) = some r := H
          have A30 := Aside0.mk A300
          clear A300
          by_cases c31 : t304 = true
          ·subst c31
           have H1 : (spec_TrailOk.l0 k2 l1 (wrap64 (x6_2 + 1)) t300 t301) = some r := by rw [if_pos rfl] at H; exact H
           clear H
           have H := H1
           clear H1
           have H' := Aside0.mk H
           clear H
           obtain ⟨Ao32, co32, eo32⟩ := Kd.R_slice HO_298001.out
           subst eo32
           try go_wp2
           have n0_ := Aside0.mk (Kd.R_drew HO_298001.out)
           have n1_ := Aside0.mk (blk_drew BK289.out)
           have n2_ := Aside0.mk (blk_drew BK297.out)
           have n3_ := Aside0.mk (below_drew1 HB.out)
           clear HO_298001 BK289 BK297 HB
           revert n0_ n1_ n2_ n3_
           intro HO_298001 BK289 BK297 HB
           have p298 : 0 ≤ ((ji26) : Int) := of_decide_eq_true (G.asm)
           have q298 : (ji26) < (l1.length : Int) := of_decide_eq_true (G.asm)
           obtain ⟨ad298, e298, hx298_0⟩ := Kd.at_int HR1.out (ji26) p298 q298
           have hw298_0 := hx298_0
           cases e298
           replace hx298_0 := (HB.out.cell (World.block_lt_of_cell? w _ hx298_0)).trans hx298_0
           replace p298 := eq_true p298
           replace q298 := eq_true q298
           have p299 : 0 ≤ (x6_2 : Int) := of_decide_eq_true (G.asm)
           have q299 : x6_2 < (l1.length : Int) := of_decide_eq_true (G.asm)
           obtain ⟨ad299, e299, hx299_0⟩ := Kd.at_int HR1.out x6_2 p299 q299
           have hw299_0 := hx299_0
           obtain rfl : ad298 = ad299 := (by injection e299)
           replace hx299_0 := (HB.out.cell (World.block_lt_of_cell? w _ hx299_0)).trans hx299_0
           replace p299 := eq_true p299
           replace q299 := eq_true q299
           refine start_ (n := 17) (S := fun w' => w'.cell? ⟨gb297, 0, none⟩ = some (.int .i64 x298000_2) ∧ w'.cell? ⟨gb297, 1, none⟩ = some (.slice Ao32 x298001_2.length co32) ∧ w'.cell? (ad298.add ((ji26)).toNat) = some (.int .i64 (rd l1 (ji26))) ∧ w'.cell? (ad298.add (x6_2).toNat) = some (.int .i64 (rd l1 x6_2))) (ds := []) (G.fl 17 0) (c19_11) rfl (c19_11) ⟨(blk_cell BK297.out 0).trans rfl, (blk_cell BK297.out 1).trans rfl, ((HB.out.cell (World.block_lt_of_cell? w _ hw298_0)).trans hw298_0), ((HB.out.cell (World.block_lt_of_cell? w _ hw299_0)).trans hw299_0)⟩ (fun hHeld => ?_); refine with_tabW spec_TrailOk.tab7 spec_TrailOk.bits7 (fun HT_ HW_ => ?_)
           generalize wr.drew = w33 at HO_298001 BK289 BK297 HB hx298_0 hx299_0 hHeld ⊢
           refine G.pu 1 (some 39) (G.fl 17 2) ?_
           refine G.pu 2 (some 40) (G.fl 17 6) ?_
           refine G.pu 3 (some 41) (G.fl 17 14) ?_
           refine G.pu 4 (some 42) (G.fl 17 30) ?_
           refine G.pu 6 (some 44) (G.fl 17 94) ?_
           refine G.pu 7 (some 45) (G.fl 17 222) ?_
           refine G.pu 8 (some 46) (G.fl 17 478) ?_
           refine G.ta4 0 (some 38) (G.fl 17 479) ?_
           refine G.ta4 5 (some 43) (G.fl 17 511) ?_
           refine G.ta4 9 (some 47) (G.fl 17 1023) ?_
           refine join_ (σ := Value × Nat) 2 #[true, true, true, true, true, true, true, true, true, true, true, true, true, true, true, false, false] (fun s_ => [(48, .tuple #[.agg #[.int .i64 t300, s_.1], .bool true]), (7, .pointer (some ⟨s_.2, 0, none⟩)), (37, .tuple #[.agg #[.int .i64 t300, s_.1], .bool true]), (49, .agg #[.int .i64 t300, s_.1]), (50, .bool true)]) (fun s_ w' => (w'.cell? ⟨gb297, 0, none⟩ = some (.int .i64 x298000_2) ∧ w'.cell? ⟨gb297, 1, none⟩ = some (.slice Ao32 x298001_2.length co32) ∧ w'.cell? (ad298.add ((ji26)).toNat) = some (.int .i64 (rd l1 (ji26))) ∧ w'.cell? (ad298.add (x6_2).toNat) = some (.int .i64 (rd l1 x6_2))) ∧ (Kd.R k63 63 w' w.heap.size (fun k_ => some k_ ≠ (.slice Ao32 x298001_2.length co32 : Value).ownBlock) s_.1 t301) ∧ (Kd.R k63 63 w' w.heap.size (fun k_ => some k_ ≠ (s_.1 : Value).ownBlock) (.slice Ao32 x298001_2.length co32) x298001_2) ∧ (w'.heap[gb289]? = some (.cells #[.int .i64 a0_0, .slice A0_1 l0_1.length c0_1] 29 (0, 0))) ∧ (w'.heap[gb297]? = some (.cells #[.int .i64 x298000_2, .slice Ao32 x298001_2.length co32] 29 (0, 0))) ∧ (w'.heap[s_.2]? = some (.cells #[.int .i64 0, .slice none 0 0] 29 (0, 0))) ∧ (w.heap.size ≤ s_.2) ∧ (w.heap.size ≤ s_.2) ∧ (gb289 ≠ s_.2) ∧ (s_.2 ≠ gb289) ∧ (gb297 ≠ s_.2) ∧ (s_.2 ≠ gb297) ∧ (Below w.heap.size w w')) ?_ ?_
           rotate_left
           ·intro hCont
            refine two_ (i := 10) (j := 14) (Ni := some 48) (Nj := some 7) #[true, true, true, true, true, true, true, true, true, true, true, false, false, false, false, false, false] #[true, true, true, true, true, true, true, true, true, true, false, false, false, false, true, false, false] rfl rfl rfl rfl (two_of HT_.out (c19_11)) (by decide) (by decide) (fun K hK => ?_) (fun K hK => ?_)
            ·skip
             refine goes_ Try.func48 (c19_11) rfl #[.agg #[.int .i64 x298000_2, .slice Ao32 x298001_2.length co32], .int .i64 (rd l1 (ji26)), .int .i64 (rd l1 x6_2)] (by rfl) rfl rfl (c19_0) ?_
             with_reducible refine (spec_NetCut.calls k2 x298000_2 _ _ x298001_2 (rd l1 (ji26)) (rd l1 x6_2) t300 t301 true _ ?side1 ?side2 A30.out).mono ?_
             (case side1 => repeat (first | exact (Kd.R_reads' HO_298001.out).2.2 | (with_reducible refine Kd.C_alloc ?_ _) | (with_reducible refine Kd.C_drewN ?_ _) | (with_reducible refine Kd.C_drew ?_)))
             (case side2 => exact (Kd.R_reads' HO_298001.out).2.1)
             rintro e w34 ⟨v302, rfl, ho0, hb⟩
             refine ⟨_, rfl, ?_⟩
             have n0_ := Aside0.mk (Kd.R_elder' (G.cR HO_298001.out) (Kd.R_base ho0) hb)
             have n1_ := Aside0.mk (Kd.R_lower (Kd.R_new' ho0 (Kd.R_lt (G.cR HO_298001.out))) (below_size (G.cB HB.out)))
             have n2_ := Aside0.mk (blk_below (g := gb289) (o := .cells #[.int .i64 a0_0, .slice A0_1 l0_1.length c0_1] 29 (0, 0)) (G.cb BK289.out) hb)
             have n3_ := Aside0.mk (blk_below (g := gb297) (o := .cells #[.int .i64 x298000_2, .slice Ao32 x298001_2.length co32] 29 (0, 0)) (G.cb BK297.out) hb)
             have n4_ := Aside0.mk (below_step (G.cB HB.out) hb)
             clear HO_298001 BK289 BK297 HB
             revert n0_ n1_ n2_ n3_ n4_
             intro HO_298001 HO303 BK289 BK297 HB
             (try clear hb)
             (try clear hb2)
             (try clear hk)
             (try clear hi)
             (try clear ho0)
             refine hK.out _ _ ⟨(blk_cell BK297.out 0).trans rfl, (blk_cell BK297.out 1).trans rfl, ((HB.out.cell (World.block_lt_of_cell? w _ hw298_0)).trans hw298_0), ((HB.out.cell (World.block_lt_of_cell? w _ hw299_0)).trans hw299_0)⟩ (fun hHeld => ?_)
             clear hK K
             refine G.no (some 48) ?_
             refine G.pu 11 (some 37) (G.fl 17 4095) ?_
             refine G.pu 12 (some 49) (G.fl 17 8191) ?_
             refine G.pu 13 (some 50) (G.fl 17 16383) ?_
             refine one_ (i := 14) (N := some 7) (G.fl 17 32767) rfl rfl (one_of HT_.out (c19_11)) (by decide) (fun K hK => ?_)
             refine box_step ?hg (N := 7) ?hd (cs := #[.int .i64 0, .slice none 0 0]) (t := 29) ?hr ?_; (case hd => rfl); (case hg => rfl); (case hr => first | (go_simp; done) | (go_simp; rfl))
             intro gb305 hg w35 hbox hb
             have n0_ := Aside0.mk (Kd.R_below (G.cR HO_298001.out) hb)
             have n1_ := Aside0.mk (Kd.R_below (G.cR HO303.out) hb)
             have n2_ := Aside0.mk (blk_below (g := gb289) (o := .cells #[.int .i64 a0_0, .slice A0_1 l0_1.length c0_1] 29 (0, 0)) (G.cb BK289.out) hb)
             have n3_ := Aside0.mk (blk_below (g := gb297) (o := .cells #[.int .i64 x298000_2, .slice Ao32 x298001_2.length co32] 29 (0, 0)) (G.cb BK297.out) hb)
             have n4_ := Aside0.mk (below_step (G.cB HB.out) hb)
             have n5_ := Aside0.mk (hbox)
             have n6_ := Aside0.mk ((c19_10 : w.heap.size ≤ gb305))
             have n7_ := Aside0.mk ((c19_10 : w.heap.size ≤ gb305))
             have n8_ := Aside0.mk ((c19_5 : gb289 ≠ gb305))
             have n9_ := Aside0.mk ((c19_6 : gb305 ≠ gb289))
             have n10_ := Aside0.mk ((c19_1 : gb297 ≠ gb305))
             have n11_ := Aside0.mk ((c19_2 : gb305 ≠ gb297))
             clear HO_298001 HO303 BK289 BK297 HB
             revert n0_ n1_ n2_ n3_ n4_ n5_ n6_ n7_ n8_ n9_ n10_ n11_
             intro HO_298001 HO303 BK289 BK297 HB BK305 GW305 GE305 NB289_305 NB305_289 NB297_305 NB305_297
             clear hb hbox hg
             refine hK.out _ _ ⟨(blk_cell BK297.out 0).trans rfl, (blk_cell BK297.out 1).trans rfl, ((HB.out.cell (World.block_lt_of_cell? w _ hw298_0)).trans hw298_0), ((HB.out.cell (World.block_lt_of_cell? w _ hw299_0)).trans hw299_0)⟩ (fun hHeld => ?_)
             clear hK K
             refine G.no (some 7) ?_
             exact norm_ (by simp only [putAll, Act.put, List.setIfInBounds_toArray, List.set_cons_zero, List.set_cons_succ]) (hCont (v302, gb305) _ ⟨hHeld, (c19_8), (c19_7), (G.cb BK289.out), (G.cb BK297.out), (G.cb BK305.out), GW305.out, GE305.out, NB289_305.out, NB305_289.out, NB297_305.out, NB305_297.out, (G.cB HB.out)⟩)
            ·skip
             refine box_step ?hg (N := 7) ?hd (cs := #[.int .i64 0, .slice none 0 0]) (t := 29) ?hr ?_; (case hd => rfl); (case hg => rfl); (case hr => first | (go_simp; done) | (go_simp; rfl))
             intro gb305 hg w34 hbox hb
             have n0_ := Aside0.mk (Kd.R_below (G.cR HO_298001.out) hb)
             have n1_ := Aside0.mk (blk_below (g := gb289) (o := .cells #[.int .i64 a0_0, .slice A0_1 l0_1.length c0_1] 29 (0, 0)) (G.cb BK289.out) hb)
             have n2_ := Aside0.mk (blk_below (g := gb297) (o := .cells #[.int .i64 x298000_2, .slice Ao32 x298001_2.length co32] 29 (0, 0)) (G.cb BK297.out) hb)
             have n3_ := Aside0.mk (below_step (G.cB HB.out) hb)
             have n4_ := Aside0.mk (hbox)
             have n5_ := Aside0.mk ((c19_10 : w.heap.size ≤ gb305))
             have n6_ := Aside0.mk ((c19_10 : w.heap.size ≤ gb305))
             have n7_ := Aside0.mk ((c19_5 : gb289 ≠ gb305))
             have n8_ := Aside0.mk ((c19_6 : gb305 ≠ gb289))
             have n9_ := Aside0.mk ((c19_1 : gb297 ≠ gb305))
             have n10_ := Aside0.mk ((c19_2 : gb305 ≠ gb297))
             clear HO_298001 BK289 BK297 HB
             revert n0_ n1_ n2_ n3_ n4_ n5_ n6_ n7_ n8_ n9_ n10_
             intro HO_298001 BK289 BK297 HB BK305 GW305 GE305 NB289_305 NB305_289 NB297_305 NB305_297
             clear hb hbox hg
             refine hK.out _ _ ⟨(blk_cell BK297.out 0).trans rfl, (blk_cell BK297.out 1).trans rfl, ((HB.out.cell (World.block_lt_of_cell? w _ hw298_0)).trans hw298_0), ((HB.out.cell (World.block_lt_of_cell? w _ hw299_0)).trans hw299_0)⟩ (fun hHeld => ?_)
             clear hK K
             refine G.no (some 7) ?_
             refine one_ (i := 10) (N := some 48) (G.fl 17 18431) rfl rfl (one_of HT_.out (c19_11)) (by decide) (fun K hK => ?_)
             refine goes_ Try.func48 (c19_11) rfl #[.agg #[.int .i64 x298000_2, .slice Ao32 x298001_2.length co32], .int .i64 (rd l1 (ji26)), .int .i64 (rd l1 x6_2)] (by rfl) rfl rfl (c19_0) ?_
             with_reducible refine (spec_NetCut.calls k2 x298000_2 _ _ x298001_2 (rd l1 (ji26)) (rd l1 x6_2) t300 t301 true _ ?side1 ?side2 A30.out).mono ?_
             (case side1 => repeat (first | exact (Kd.R_reads' HO_298001.out).2.2 | (with_reducible refine Kd.C_alloc ?_ _) | (with_reducible refine Kd.C_drewN ?_ _) | (with_reducible refine Kd.C_drew ?_)))
             (case side2 => exact (Kd.R_reads' HO_298001.out).2.1)
             rintro e w35 ⟨v302, rfl, ho0, hb⟩
             refine ⟨_, rfl, ?_⟩
             have n0_ := Aside0.mk (Kd.R_elder' (G.cR HO_298001.out) (Kd.R_base ho0) hb)
             have n1_ := Aside0.mk (Kd.R_lower (Kd.R_new' ho0 (Kd.R_lt (G.cR HO_298001.out))) (below_size (G.cB HB.out)))
             have n2_ := Aside0.mk (blk_below (g := gb289) (o := .cells #[.int .i64 a0_0, .slice A0_1 l0_1.length c0_1] 29 (0, 0)) (G.cb BK289.out) hb)
             have n3_ := Aside0.mk (blk_below (g := gb297) (o := .cells #[.int .i64 x298000_2, .slice Ao32 x298001_2.length co32] 29 (0, 0)) (G.cb BK297.out) hb)
             have n4_ := Aside0.mk (blk_below (g := gb305) (o := .cells #[.int .i64 0, .slice none 0 0] 29 (0, 0)) (G.cb BK305.out) hb)
             have n5_ := Aside0.mk (below_step (G.cB HB.out) hb)
             clear HO_298001 BK289 BK297 BK305 HB
             revert n0_ n1_ n2_ n3_ n4_ n5_
             intro HO_298001 HO303 BK289 BK297 BK305 HB
             (try clear hb)
             (try clear hb2)
             (try clear hk)
             (try clear hi)
             (try clear ho0)
             refine hK.out _ _ ⟨(blk_cell BK297.out 0).trans rfl, (blk_cell BK297.out 1).trans rfl, ((HB.out.cell (World.block_lt_of_cell? w _ hw298_0)).trans hw298_0), ((HB.out.cell (World.block_lt_of_cell? w _ hw299_0)).trans hw299_0)⟩ (fun hHeld => ?_)
             clear hK K
             refine G.no (some 48) ?_
             refine G.pu 11 (some 37) (G.fl 17 20479) ?_
             refine G.pu 12 (some 49) (G.fl 17 24575) ?_
             refine G.pu 13 (some 50) (G.fl 17 32767) ?_
             exact norm_ (by simp only [putAll, Act.put, List.setIfInBounds_toArray, List.set_cons_zero, List.set_cons_succ]) (hCont (v302, gb305) _ ⟨hHeld, (c19_8), (c19_7), (G.cb BK289.out), (G.cb BK297.out), (G.cb BK305.out), GW305.out, GE305.out, NB289_305.out, NB305_289.out, NB297_305.out, NB305_297.out, (G.cB HB.out)⟩)
           rintro ⟨v302, gb305⟩ w36 ⟨hS_, h0_, h1_, h2_, h3_, h4_, h5_, h6_, h7_, h8_, h9_, h10_, h11_⟩
           have n0_ : Aside0 (Kd.R k63 63 w36 w.heap.size (fun k_ => some k_ ≠ (.slice Ao32 x298001_2.length co32 : Value).ownBlock) v302 t301) := ⟨h0_⟩
           have n1_ : Aside0 (Kd.R k63 63 w36 w.heap.size (fun k_ => some k_ ≠ (v302 : Value).ownBlock) (.slice Ao32 x298001_2.length co32) x298001_2) := ⟨h1_⟩
           have n2_ : Aside0 (w36.heap[gb289]? = some (.cells #[.int .i64 a0_0, .slice A0_1 l0_1.length c0_1] 29 (0, 0))) := ⟨h2_⟩
           have n3_ : Aside0 (w36.heap[gb297]? = some (.cells #[.int .i64 x298000_2, .slice Ao32 x298001_2.length co32] 29 (0, 0))) := ⟨h3_⟩
           have n4_ : Aside0 (w36.heap[gb305]? = some (.cells #[.int .i64 0, .slice none 0 0] 29 (0, 0))) := ⟨h4_⟩
           have n5_ : Aside0 (w.heap.size ≤ gb305) := ⟨h5_⟩
           have n6_ : Aside0 (w.heap.size ≤ gb305) := ⟨h6_⟩
           have n7_ : Aside0 (gb289 ≠ gb305) := ⟨h7_⟩
           have n8_ : Aside0 (gb305 ≠ gb289) := ⟨h8_⟩
           have n9_ : Aside0 (gb297 ≠ gb305) := ⟨h9_⟩
           have n10_ : Aside0 (gb305 ≠ gb297) := ⟨h10_⟩
           have n11_ : Aside0 (Below w.heap.size w w36) := ⟨h11_⟩
           clear HO_298001 BK289 BK297 HB
           clear h0_ h1_ h2_ h3_ h4_ h5_ h6_ h7_ h8_ h9_ h10_ h11_
           revert n0_ n1_ n2_ n3_ n4_ n5_ n6_ n7_ n8_ n9_ n10_ n11_
           intro HO303 HO_298001 BK289 BK297 BK305 GW305 GE305 NB289_305 NB305_289 NB297_305 NB305_297 HB
           have hHeld : w36.cell? ⟨gb297, 0, none⟩ = some (.int .i64 x298000_2) ∧ w36.cell? ⟨gb297, 1, none⟩ = some (.slice Ao32 x298001_2.length co32) ∧ w36.cell? (ad298.add ((ji26)).toNat) = some (.int .i64 (rd l1 (ji26))) ∧ w36.cell? (ad298.add (x6_2).toNat) = some (.int .i64 (rd l1 x6_2)) := hS_
           obtain ⟨Ao38, co38, eo38⟩ := Kd.R_slice HO303.out
           (first | subst eo38 | (injection eo38 with f1_ f2_ f3_; have f4_ := f1_.symm; have f5_ := f3_.symm; clear f1_ f2_ f3_; subst f4_; subst f5_))
           refine norm_ (a' := ?_) ?_ ?_
           rotate_left
           ·simp only [putAll, Act.put, List.setIfInBounds_toArray, List.set_cons_zero, List.set_cons_succ]
            rfl
           refine one_ (i := 15) (N := none) (G.fl 17 65535) rfl rfl (one_of HT_.out (c19_11)) (by decide) (fun K hK => ?_)
           have hs37 : w36.cell? ⟨gb305, 0, none⟩ = some (.int .i64 0) := (blk_cell BK305.out 0).trans rfl
           have hfs37 := blk_frozen BK305.out 0
           have hns37_0 := NB289_305.out
           have hns37_1 := NB297_305.out
           have hms37_0 := NB305_289.out
           have hms37_1 := NB305_297.out
           have hs39 : w36.cell? ⟨gb305, 1, none⟩ = some (.slice none 0 0) := (blk_cell BK305.out 1).trans rfl
           have hfs39 := blk_frozen BK305.out 1
           have hns39_0 := NB289_305.out
           have hns39_1 := NB297_305.out
           have hms39_0 := NB305_289.out
           have hms39_1 := NB305_297.out
           refine skip_ (w1 := ?_) (by rfl) rfl ?_ ?_
           rotate_left
           ·go_simp
            rfl
           refine hK.out _ _ ⟨((cell_far (p := ⟨gb305, _, none⟩) NB297_305.out _).trans (((cell_far (p := ⟨gb305, _, none⟩) NB297_305.out _).trans (hHeld.1)))), ((cell_far (p := ⟨gb305, _, none⟩) NB297_305.out _).trans (((cell_far (p := ⟨gb305, _, none⟩) NB297_305.out _).trans (hHeld.2.1)))), ((cell_far (p := ⟨gb305, _, none⟩) (by first | exact Nat.ne_of_lt (Nat.lt_of_lt_of_le (by have := World.block_lt_of_cell? _ _ hw298_0; first | rwa [add_block] at this | exact this) GW305.out) | (rw [add_block]; exact Nat.ne_of_lt (Nat.lt_of_lt_of_le (by have := World.block_lt_of_cell? _ _ hw298_0; first | rwa [add_block] at this | exact this) GW305.out)) | (show (Addr.add _ _).block ≠ _; rw [add_block]; exact Nat.ne_of_lt (Nat.lt_of_lt_of_le (by have := World.block_lt_of_cell? _ _ hw298_0; first | rwa [add_block] at this | exact this) GW305.out)) | (dsimp only; exact Nat.ne_of_lt (Nat.lt_of_lt_of_le (by have := World.block_lt_of_cell? _ _ hw298_0; first | rwa [add_block] at this | exact this) GW305.out))) _).trans (((cell_far (p := ⟨gb305, _, none⟩) (by first | exact Nat.ne_of_lt (Nat.lt_of_lt_of_le (by have := World.block_lt_of_cell? _ _ hw298_0; first | rwa [add_block] at this | exact this) GW305.out) | (rw [add_block]; exact Nat.ne_of_lt (Nat.lt_of_lt_of_le (by have := World.block_lt_of_cell? _ _ hw298_0; first | rwa [add_block] at this | exact this) GW305.out)) | (show (Addr.add _ _).block ≠ _; rw [add_block]; exact Nat.ne_of_lt (Nat.lt_of_lt_of_le (by have := World.block_lt_of_cell? _ _ hw298_0; first | rwa [add_block] at this | exact this) GW305.out)) | (dsimp only; exact Nat.ne_of_lt (Nat.lt_of_lt_of_le (by have := World.block_lt_of_cell? _ _ hw298_0; first | rwa [add_block] at this | exact this) GW305.out))) _).trans (hHeld.2.2.1)))), ((cell_far (p := ⟨gb305, _, none⟩) (by first | exact Nat.ne_of_lt (Nat.lt_of_lt_of_le (by have := World.block_lt_of_cell? _ _ hw299_0; first | rwa [add_block] at this | exact this) GW305.out) | (rw [add_block]; exact Nat.ne_of_lt (Nat.lt_of_lt_of_le (by have := World.block_lt_of_cell? _ _ hw299_0; first | rwa [add_block] at this | exact this) GW305.out)) | (show (Addr.add _ _).block ≠ _; rw [add_block]; exact Nat.ne_of_lt (Nat.lt_of_lt_of_le (by have := World.block_lt_of_cell? _ _ hw299_0; first | rwa [add_block] at this | exact this) GW305.out)) | (dsimp only; exact Nat.ne_of_lt (Nat.lt_of_lt_of_le (by have := World.block_lt_of_cell? _ _ hw299_0; first | rwa [add_block] at this | exact this) GW305.out))) _).trans (((cell_far (p := ⟨gb305, _, none⟩) (by first | exact Nat.ne_of_lt (Nat.lt_of_lt_of_le (by have := World.block_lt_of_cell? _ _ hw299_0; first | rwa [add_block] at this | exact this) GW305.out) | (rw [add_block]; exact Nat.ne_of_lt (Nat.lt_of_lt_of_le (by have := World.block_lt_of_cell? _ _ hw299_0; first | rwa [add_block] at this | exact this) GW305.out)) | (show (Addr.add _ _).block ≠ _; rw [add_block]; exact Nat.ne_of_lt (Nat.lt_of_lt_of_le (by have := World.block_lt_of_cell? _ _ hw299_0; first | rwa [add_block] at this | exact this) GW305.out)) | (dsimp only; exact Nat.ne_of_lt (Nat.lt_of_lt_of_le (by have := World.block_lt_of_cell? _ _ hw299_0; first | rwa [add_block] at this | exact this) GW305.out))) _).trans (hHeld.2.2.2))))⟩ (fun hHeld => ?_)
           clear hK K
           refine G.pu 16 (some 8) (G.fl 17 131071) ?_
           refine done_ (done_of HT_.out (c19_11)) ?_
           have hnb40 := NB305_289.out
           have hnc40 := NB289_305.out
           have hnb41 := NB305_297.out
           have hnc41 := NB297_305.out
           have hcz42_0 : w36.cell? ⟨gb305, 0, none⟩ = some (.int .i64 0) := (blk_cell BK305.out 0).trans rfl
           have hcz42_1 : w36.cell? ⟨gb305, 1, none⟩ = some (.slice none 0 0) := (blk_cell BK305.out 1).trans rfl
           have hfz42_0 := blk_frozen BK305.out 0
           have hfz42_1 := blk_frozen BK305.out 1
           have hnb43 := NB297_289.out
           have hnc43 := NB289_297.out
           have hcz44_0 : w36.cell? ⟨gb297, 0, none⟩ = some (.int .i64 x298000_2) := (blk_cell BK297.out 0).trans rfl
           have hcz44_1 : w36.cell? ⟨gb297, 1, none⟩ = some (.slice Ao32 x298001_2.length co32) := (blk_cell BK297.out 1).trans rfl
           have hfz44_0 := blk_frozen BK297.out 0
           have hfz44_1 := blk_frozen BK297.out 1
           try go_wp2
           go_roundg k2
           case measure => have := HJ2.out; have := HK2.out; omega
           case rel => exact ⟨(wrap64 (x6_2 + 1)), (t300), (t301), (.slice Ao38 t301.length co38), (c19_9), H', ⟨by have := HJ2.out; have := HK2.out; omega⟩, ⟨by (with_reducible repeat (first | apply Kd.R_alloc | apply Kd.R_drewN | apply Kd.R_drew)); exact Kd.R_mono (Kd.R_far (p := ⟨gb297, 1, none⟩) (Kd.R_far (p := ⟨gb297, 0, none⟩) (Kd.R_far (p := ⟨gb305, 1, none⟩) (Kd.R_far (p := ⟨gb305, 0, none⟩) (Kd.R_types (Kd.R_types HO303.out BK305.out (by decide)) BK297.out (by decide)) (fun _ hk => hk.1.2) (.int .i64 t300)) (fun _ hk => hk.1.2) (.slice Ao38 t301.length co38)) (fun _ hk => hk.2) (.int .i64 t300)) (fun _ hk => hk.2) (.slice Ao38 t301.length co38)) (fun _ hk => trivial)⟩, ⟨by (with_reducible repeat (first | refine blk_drewN ?_ _ | refine blk_drew ?_ | refine blk_alloc ?_ _)); refine blk_far ?_ NB289_297.out _; (with_reducible repeat (first | refine blk_drewN ?_ _ | refine blk_drew ?_ | refine blk_alloc ?_ _)); refine blk_far ?_ NB289_297.out _; (with_reducible repeat (first | refine blk_drewN ?_ _ | refine blk_drew ?_ | refine blk_alloc ?_ _)); refine blk_far ?_ NB289_305.out _; (with_reducible repeat (first | refine blk_drewN ?_ _ | refine blk_drew ?_ | refine blk_alloc ?_ _)); refine blk_far ?_ NB289_305.out _; (with_reducible repeat (first | refine blk_drewN ?_ _ | refine blk_drew ?_ | refine blk_alloc ?_ _)); exact BK289.out⟩, ⟨by (with_reducible repeat (first | refine blk_drewN ?_ _ | refine blk_drew ?_ | refine blk_alloc ?_ _)); refine blk_put (cs := #[.int .i64 t300, .slice Ao32 x298001_2.length co32]) ?_ 1 _ rfl; (with_reducible repeat (first | refine blk_drewN ?_ _ | refine blk_drew ?_ | refine blk_alloc ?_ _)); refine blk_put (cs := #[.int .i64 x298000_2, .slice Ao32 x298001_2.length co32]) ?_ 0 _ rfl; (with_reducible repeat (first | refine blk_drewN ?_ _ | refine blk_drew ?_ | refine blk_alloc ?_ _)); refine blk_far ?_ NB297_305.out _; (with_reducible repeat (first | refine blk_drewN ?_ _ | refine blk_drew ?_ | refine blk_alloc ?_ _)); refine blk_far ?_ NB297_305.out _; (with_reducible repeat (first | refine blk_drewN ?_ _ | refine blk_drew ?_ | refine blk_alloc ?_ _)); exact BK297.out⟩, ⟨G.cB HB.out⟩⟩
          ·replace c31 := Bool.eq_false_iff.mpr c31
           subst c31
           have H1 : (some false) = some r := by rw [if_neg (show ¬ (false = true) by decide)] at H; exact H
           clear H
           have H := H1
           clear H1
           obtain rfl := Option.some.inj H
           obtain ⟨Ao45, co45, eo45⟩ := Kd.R_slice HO_298001.out
           subst eo45
           try go_wp2
           have n0_ := Aside0.mk (Kd.R_drew HO_298001.out)
           have n1_ := Aside0.mk (blk_drew BK289.out)
           have n2_ := Aside0.mk (blk_drew BK297.out)
           have n3_ := Aside0.mk (below_drew1 HB.out)
           clear HO_298001 BK289 BK297 HB
           revert n0_ n1_ n2_ n3_
           intro HO_298001 BK289 BK297 HB
           have p298 : 0 ≤ ((ji26) : Int) := of_decide_eq_true (G.asm)
           have q298 : (ji26) < (l1.length : Int) := of_decide_eq_true (G.asm)
           obtain ⟨ad298, e298, hx298_0⟩ := Kd.at_int HR1.out (ji26) p298 q298
           have hw298_0 := hx298_0
           cases e298
           replace hx298_0 := (HB.out.cell (World.block_lt_of_cell? w _ hx298_0)).trans hx298_0
           replace p298 := eq_true p298
           replace q298 := eq_true q298
           have p299 : 0 ≤ (x6_2 : Int) := of_decide_eq_true (G.asm)
           have q299 : x6_2 < (l1.length : Int) := of_decide_eq_true (G.asm)
           obtain ⟨ad299, e299, hx299_0⟩ := Kd.at_int HR1.out x6_2 p299 q299
           have hw299_0 := hx299_0
           obtain rfl : ad298 = ad299 := (by injection e299)
           replace hx299_0 := (HB.out.cell (World.block_lt_of_cell? w _ hx299_0)).trans hx299_0
           replace p299 := eq_true p299
           replace q299 := eq_true q299
           refine start_ (n := 17) (S := fun w' => w'.cell? ⟨gb297, 0, none⟩ = some (.int .i64 x298000_2) ∧ w'.cell? ⟨gb297, 1, none⟩ = some (.slice Ao45 x298001_2.length co45) ∧ w'.cell? (ad298.add ((ji26)).toNat) = some (.int .i64 (rd l1 (ji26))) ∧ w'.cell? (ad298.add (x6_2).toNat) = some (.int .i64 (rd l1 x6_2))) (ds := []) (G.fl 17 0) (c19_11) rfl (c19_11) ⟨(blk_cell BK297.out 0).trans rfl, (blk_cell BK297.out 1).trans rfl, ((HB.out.cell (World.block_lt_of_cell? w _ hw298_0)).trans hw298_0), ((HB.out.cell (World.block_lt_of_cell? w _ hw299_0)).trans hw299_0)⟩ (fun hHeld => ?_); refine with_tabW spec_TrailOk.tab7 spec_TrailOk.bits7 (fun HT_ HW_ => ?_)
           generalize wr.drew = w46 at HO_298001 BK289 BK297 HB hx298_0 hx299_0 hHeld ⊢
           refine G.pu 1 (some 39) (G.fl 17 2) ?_
           refine G.pu 2 (some 40) (G.fl 17 6) ?_
           refine G.pu 3 (some 41) (G.fl 17 14) ?_
           refine G.pu 4 (some 42) (G.fl 17 30) ?_
           refine G.pu 6 (some 44) (G.fl 17 94) ?_
           refine G.pu 7 (some 45) (G.fl 17 222) ?_
           refine G.pu 8 (some 46) (G.fl 17 478) ?_
           refine G.ta4 0 (some 38) (G.fl 17 479) ?_
           refine G.ta4 5 (some 43) (G.fl 17 511) ?_
           refine G.ta4 9 (some 47) (G.fl 17 1023) ?_
           refine join_ (σ := Value × Nat) 2 #[true, true, true, true, true, true, true, true, true, true, true, true, true, true, true, false, false] (fun s_ => [(48, .tuple #[.agg #[.int .i64 t300, s_.1], .bool false]), (7, .pointer (some ⟨s_.2, 0, none⟩)), (37, .tuple #[.agg #[.int .i64 t300, s_.1], .bool false]), (49, .agg #[.int .i64 t300, s_.1]), (50, .bool false)]) (fun s_ w' => (w'.cell? ⟨gb297, 0, none⟩ = some (.int .i64 x298000_2) ∧ w'.cell? ⟨gb297, 1, none⟩ = some (.slice Ao45 x298001_2.length co45) ∧ w'.cell? (ad298.add ((ji26)).toNat) = some (.int .i64 (rd l1 (ji26))) ∧ w'.cell? (ad298.add (x6_2).toNat) = some (.int .i64 (rd l1 x6_2))) ∧ (Kd.R k63 63 w' w.heap.size (fun k_ => some k_ ≠ (.slice Ao45 x298001_2.length co45 : Value).ownBlock) s_.1 t301) ∧ (Kd.R k63 63 w' w.heap.size (fun k_ => some k_ ≠ (s_.1 : Value).ownBlock) (.slice Ao45 x298001_2.length co45) x298001_2) ∧ (w'.heap[gb289]? = some (.cells #[.int .i64 a0_0, .slice A0_1 l0_1.length c0_1] 29 (0, 0))) ∧ (w'.heap[gb297]? = some (.cells #[.int .i64 x298000_2, .slice Ao45 x298001_2.length co45] 29 (0, 0))) ∧ (w'.heap[s_.2]? = some (.cells #[.int .i64 0, .slice none 0 0] 29 (0, 0))) ∧ (w.heap.size ≤ s_.2) ∧ (w.heap.size ≤ s_.2) ∧ (gb289 ≠ s_.2) ∧ (s_.2 ≠ gb289) ∧ (gb297 ≠ s_.2) ∧ (s_.2 ≠ gb297) ∧ (Below w.heap.size w w')) ?_ ?_
           rotate_left
           ·intro hCont
            refine two_ (i := 10) (j := 14) (Ni := some 48) (Nj := some 7) #[true, true, true, true, true, true, true, true, true, true, true, false, false, false, false, false, false] #[true, true, true, true, true, true, true, true, true, true, false, false, false, false, true, false, false] rfl rfl rfl rfl (two_of HT_.out (c19_11)) (by decide) (by decide) (fun K hK => ?_) (fun K hK => ?_)
            ·skip
             refine goes_ Try.func48 (c19_11) rfl #[.agg #[.int .i64 x298000_2, .slice Ao45 x298001_2.length co45], .int .i64 (rd l1 (ji26)), .int .i64 (rd l1 x6_2)] (by rfl) rfl rfl (c19_0) ?_
             with_reducible refine (spec_NetCut.calls k2 x298000_2 _ _ x298001_2 (rd l1 (ji26)) (rd l1 x6_2) t300 t301 false _ ?side1 ?side2 A30.out).mono ?_
             (case side1 => repeat (first | exact (Kd.R_reads' HO_298001.out).2.2 | (with_reducible refine Kd.C_alloc ?_ _) | (with_reducible refine Kd.C_drewN ?_ _) | (with_reducible refine Kd.C_drew ?_)))
             (case side2 => exact (Kd.R_reads' HO_298001.out).2.1)
             rintro e w47 ⟨v302, rfl, ho0, hb⟩
             refine ⟨_, rfl, ?_⟩
             have n0_ := Aside0.mk (Kd.R_elder' (G.cR HO_298001.out) (Kd.R_base ho0) hb)
             have n1_ := Aside0.mk (Kd.R_lower (Kd.R_new' ho0 (Kd.R_lt (G.cR HO_298001.out))) (below_size (G.cB HB.out)))
             have n2_ := Aside0.mk (blk_below (g := gb289) (o := .cells #[.int .i64 a0_0, .slice A0_1 l0_1.length c0_1] 29 (0, 0)) (G.cb BK289.out) hb)
             have n3_ := Aside0.mk (blk_below (g := gb297) (o := .cells #[.int .i64 x298000_2, .slice Ao45 x298001_2.length co45] 29 (0, 0)) (G.cb BK297.out) hb)
             have n4_ := Aside0.mk (below_step (G.cB HB.out) hb)
             clear HO_298001 BK289 BK297 HB
             revert n0_ n1_ n2_ n3_ n4_
             intro HO_298001 HO303 BK289 BK297 HB
             (try clear hb)
             (try clear hb2)
             (try clear hk)
             (try clear hi)
             (try clear ho0)
             refine hK.out _ _ ⟨(blk_cell BK297.out 0).trans rfl, (blk_cell BK297.out 1).trans rfl, ((HB.out.cell (World.block_lt_of_cell? w _ hw298_0)).trans hw298_0), ((HB.out.cell (World.block_lt_of_cell? w _ hw299_0)).trans hw299_0)⟩ (fun hHeld => ?_)
             clear hK K
             refine G.no (some 48) ?_
             refine G.pu 11 (some 37) (G.fl 17 4095) ?_
             refine G.pu 12 (some 49) (G.fl 17 8191) ?_
             refine G.pu 13 (some 50) (G.fl 17 16383) ?_
             refine one_ (i := 14) (N := some 7) (G.fl 17 32767) rfl rfl (one_of HT_.out (c19_11)) (by decide) (fun K hK => ?_)
             refine box_step ?hg (N := 7) ?hd (cs := #[.int .i64 0, .slice none 0 0]) (t := 29) ?hr ?_; (case hd => rfl); (case hg => rfl); (case hr => first | (go_simp; done) | (go_simp; rfl))
             intro gb305 hg w48 hbox hb
             have n0_ := Aside0.mk (Kd.R_below (G.cR HO_298001.out) hb)
             have n1_ := Aside0.mk (Kd.R_below (G.cR HO303.out) hb)
             have n2_ := Aside0.mk (blk_below (g := gb289) (o := .cells #[.int .i64 a0_0, .slice A0_1 l0_1.length c0_1] 29 (0, 0)) (G.cb BK289.out) hb)
             have n3_ := Aside0.mk (blk_below (g := gb297) (o := .cells #[.int .i64 x298000_2, .slice Ao45 x298001_2.length co45] 29 (0, 0)) (G.cb BK297.out) hb)
             have n4_ := Aside0.mk (below_step (G.cB HB.out) hb)
             have n5_ := Aside0.mk (hbox)
             have n6_ := Aside0.mk ((c19_10 : w.heap.size ≤ gb305))
             have n7_ := Aside0.mk ((c19_10 : w.heap.size ≤ gb305))
             have n8_ := Aside0.mk ((c19_5 : gb289 ≠ gb305))
             have n9_ := Aside0.mk ((c19_6 : gb305 ≠ gb289))
             have n10_ := Aside0.mk ((c19_3 : gb297 ≠ gb305))
             have n11_ := Aside0.mk ((c19_4 : gb305 ≠ gb297))
             clear HO_298001 HO303 BK289 BK297 HB
             revert n0_ n1_ n2_ n3_ n4_ n5_ n6_ n7_ n8_ n9_ n10_ n11_
             intro HO_298001 HO303 BK289 BK297 HB BK305 GW305 GE305 NB289_305 NB305_289 NB297_305 NB305_297
             clear hb hbox hg
             refine hK.out _ _ ⟨(blk_cell BK297.out 0).trans rfl, (blk_cell BK297.out 1).trans rfl, ((HB.out.cell (World.block_lt_of_cell? w _ hw298_0)).trans hw298_0), ((HB.out.cell (World.block_lt_of_cell? w _ hw299_0)).trans hw299_0)⟩ (fun hHeld => ?_)
             clear hK K
             refine G.no (some 7) ?_
             exact norm_ (by simp only [putAll, Act.put, List.setIfInBounds_toArray, List.set_cons_zero, List.set_cons_succ]) (hCont (v302, gb305) _ ⟨hHeld, (c19_8), (c19_7), (G.cb BK289.out), (G.cb BK297.out), (G.cb BK305.out), GW305.out, GE305.out, NB289_305.out, NB305_289.out, NB297_305.out, NB305_297.out, (G.cB HB.out)⟩)
            ·skip
             refine box_step ?hg (N := 7) ?hd (cs := #[.int .i64 0, .slice none 0 0]) (t := 29) ?hr ?_; (case hd => rfl); (case hg => rfl); (case hr => first | (go_simp; done) | (go_simp; rfl))
             intro gb305 hg w47 hbox hb
             have n0_ := Aside0.mk (Kd.R_below (G.cR HO_298001.out) hb)
             have n1_ := Aside0.mk (blk_below (g := gb289) (o := .cells #[.int .i64 a0_0, .slice A0_1 l0_1.length c0_1] 29 (0, 0)) (G.cb BK289.out) hb)
             have n2_ := Aside0.mk (blk_below (g := gb297) (o := .cells #[.int .i64 x298000_2, .slice Ao45 x298001_2.length co45] 29 (0, 0)) (G.cb BK297.out) hb)
             have n3_ := Aside0.mk (below_step (G.cB HB.out) hb)
             have n4_ := Aside0.mk (hbox)
             have n5_ := Aside0.mk ((c19_10 : w.heap.size ≤ gb305))
             have n6_ := Aside0.mk ((c19_10 : w.heap.size ≤ gb305))
             have n7_ := Aside0.mk ((c19_5 : gb289 ≠ gb305))
             have n8_ := Aside0.mk ((c19_6 : gb305 ≠ gb289))
             have n9_ := Aside0.mk ((c19_3 : gb297 ≠ gb305))
             have n10_ := Aside0.mk ((c19_4 : gb305 ≠ gb297))
             clear HO_298001 BK289 BK297 HB
             revert n0_ n1_ n2_ n3_ n4_ n5_ n6_ n7_ n8_ n9_ n10_
             intro HO_298001 BK289 BK297 HB BK305 GW305 GE305 NB289_305 NB305_289 NB297_305 NB305_297
             clear hb hbox hg
             refine hK.out _ _ ⟨(blk_cell BK297.out 0).trans rfl, (blk_cell BK297.out 1).trans rfl, ((HB.out.cell (World.block_lt_of_cell? w _ hw298_0)).trans hw298_0), ((HB.out.cell (World.block_lt_of_cell? w _ hw299_0)).trans hw299_0)⟩ (fun hHeld => ?_)
             clear hK K
             refine G.no (some 7) ?_
             refine one_ (i := 10) (N := some 48) (G.fl 17 18431) rfl rfl (one_of HT_.out (c19_11)) (by decide) (fun K hK => ?_)
             refine goes_ Try.func48 (c19_11) rfl #[.agg #[.int .i64 x298000_2, .slice Ao45 x298001_2.length co45], .int .i64 (rd l1 (ji26)), .int .i64 (rd l1 x6_2)] (by rfl) rfl rfl (c19_0) ?_
             with_reducible refine (spec_NetCut.calls k2 x298000_2 _ _ x298001_2 (rd l1 (ji26)) (rd l1 x6_2) t300 t301 false _ ?side1 ?side2 A30.out).mono ?_
             (case side1 => repeat (first | exact (Kd.R_reads' HO_298001.out).2.2 | (with_reducible refine Kd.C_alloc ?_ _) | (with_reducible refine Kd.C_drewN ?_ _) | (with_reducible refine Kd.C_drew ?_)))
             (case side2 => exact (Kd.R_reads' HO_298001.out).2.1)
             rintro e w48 ⟨v302, rfl, ho0, hb⟩
             refine ⟨_, rfl, ?_⟩
             have n0_ := Aside0.mk (Kd.R_elder' (G.cR HO_298001.out) (Kd.R_base ho0) hb)
             have n1_ := Aside0.mk (Kd.R_lower (Kd.R_new' ho0 (Kd.R_lt (G.cR HO_298001.out))) (below_size (G.cB HB.out)))
             have n2_ := Aside0.mk (blk_below (g := gb289) (o := .cells #[.int .i64 a0_0, .slice A0_1 l0_1.length c0_1] 29 (0, 0)) (G.cb BK289.out) hb)
             have n3_ := Aside0.mk (blk_below (g := gb297) (o := .cells #[.int .i64 x298000_2, .slice Ao45 x298001_2.length co45] 29 (0, 0)) (G.cb BK297.out) hb)
             have n4_ := Aside0.mk (blk_below (g := gb305) (o := .cells #[.int .i64 0, .slice none 0 0] 29 (0, 0)) (G.cb BK305.out) hb)
             have n5_ := Aside0.mk (below_step (G.cB HB.out) hb)
             clear HO_298001 BK289 BK297 BK305 HB
             revert n0_ n1_ n2_ n3_ n4_ n5_
             intro HO_298001 HO303 BK289 BK297 BK305 HB
             (try clear hb)
             (try clear hb2)
             (try clear hk)
             (try clear hi)
             (try clear ho0)
             refine hK.out _ _ ⟨(blk_cell BK297.out 0).trans rfl, (blk_cell BK297.out 1).trans rfl, ((HB.out.cell (World.block_lt_of_cell? w _ hw298_0)).trans hw298_0), ((HB.out.cell (World.block_lt_of_cell? w _ hw299_0)).trans hw299_0)⟩ (fun hHeld => ?_)
             clear hK K
             refine G.no (some 48) ?_
             refine G.pu 11 (some 37) (G.fl 17 20479) ?_
             refine G.pu 12 (some 49) (G.fl 17 24575) ?_
             refine G.pu 13 (some 50) (G.fl 17 32767) ?_
             exact norm_ (by simp only [putAll, Act.put, List.setIfInBounds_toArray, List.set_cons_zero, List.set_cons_succ]) (hCont (v302, gb305) _ ⟨hHeld, (c19_8), (c19_7), (G.cb BK289.out), (G.cb BK297.out), (G.cb BK305.out), GW305.out, GE305.out, NB289_305.out, NB305_289.out, NB297_305.out, NB305_297.out, (G.cB HB.out)⟩)
           rintro ⟨v302, gb305⟩ w49 ⟨hS_, h0_, h1_, h2_, h3_, h4_, h5_, h6_, h7_, h8_, h9_, h10_, h11_⟩
           have n0_ : Aside0 (Kd.R k63 63 w49 w.heap.size (fun k_ => some k_ ≠ (.slice Ao45 x298001_2.length co45 : Value).ownBlock) v302 t301) := ⟨h0_⟩
           have n1_ : Aside0 (Kd.R k63 63 w49 w.heap.size (fun k_ => some k_ ≠ (v302 : Value).ownBlock) (.slice Ao45 x298001_2.length co45) x298001_2) := ⟨h1_⟩
           have n2_ : Aside0 (w49.heap[gb289]? = some (.cells #[.int .i64 a0_0, .slice A0_1 l0_1.length c0_1] 29 (0, 0))) := ⟨h2_⟩
           have n3_ : Aside0 (w49.heap[gb297]? = some (.cells #[.int .i64 x298000_2, .slice Ao45 x298001_2.length co45] 29 (0, 0))) := ⟨h3_⟩
           have n4_ : Aside0 (w49.heap[gb305]? = some (.cells #[.int .i64 0, .slice none 0 0] 29 (0, 0))) := ⟨h4_⟩
           have n5_ : Aside0 (w.heap.size ≤ gb305) := ⟨h5_⟩
           have n6_ : Aside0 (w.heap.size ≤ gb305) := ⟨h6_⟩
           have n7_ : Aside0 (gb289 ≠ gb305) := ⟨h7_⟩
           have n8_ : Aside0 (gb305 ≠ gb289) := ⟨h8_⟩
           have n9_ : Aside0 (gb297 ≠ gb305) := ⟨h9_⟩
           have n10_ : Aside0 (gb305 ≠ gb297) := ⟨h10_⟩
           have n11_ : Aside0 (Below w.heap.size w w49) := ⟨h11_⟩
           clear HO_298001 BK289 BK297 HB
           clear h0_ h1_ h2_ h3_ h4_ h5_ h6_ h7_ h8_ h9_ h10_ h11_
           revert n0_ n1_ n2_ n3_ n4_ n5_ n6_ n7_ n8_ n9_ n10_ n11_
           intro HO303 HO_298001 BK289 BK297 BK305 GW305 GE305 NB289_305 NB305_289 NB297_305 NB305_297 HB
           have hHeld : w49.cell? ⟨gb297, 0, none⟩ = some (.int .i64 x298000_2) ∧ w49.cell? ⟨gb297, 1, none⟩ = some (.slice Ao45 x298001_2.length co45) ∧ w49.cell? (ad298.add ((ji26)).toNat) = some (.int .i64 (rd l1 (ji26))) ∧ w49.cell? (ad298.add (x6_2).toNat) = some (.int .i64 (rd l1 x6_2)) := hS_
           obtain ⟨Ao51, co51, eo51⟩ := Kd.R_slice HO303.out
           (first | subst eo51 | (injection eo51 with f1_ f2_ f3_; have f4_ := f1_.symm; have f5_ := f3_.symm; clear f1_ f2_ f3_; subst f4_; subst f5_))
           refine norm_ (a' := ?_) ?_ ?_
           rotate_left
           ·simp only [putAll, Act.put, List.setIfInBounds_toArray, List.set_cons_zero, List.set_cons_succ]
            rfl
           refine one_ (i := 15) (N := none) (G.fl 17 65535) rfl rfl (one_of HT_.out (c19_11)) (by decide) (fun K hK => ?_)
           have hs50 : w49.cell? ⟨gb305, 0, none⟩ = some (.int .i64 0) := (blk_cell BK305.out 0).trans rfl
           have hfs50 := blk_frozen BK305.out 0
           have hns50_0 := NB289_305.out
           have hns50_1 := NB297_305.out
           have hms50_0 := NB305_289.out
           have hms50_1 := NB305_297.out
           have hs52 : w49.cell? ⟨gb305, 1, none⟩ = some (.slice none 0 0) := (blk_cell BK305.out 1).trans rfl
           have hfs52 := blk_frozen BK305.out 1
           have hns52_0 := NB289_305.out
           have hns52_1 := NB297_305.out
           have hms52_0 := NB305_289.out
           have hms52_1 := NB305_297.out
           refine skip_ (w1 := ?_) (by rfl) rfl ?_ ?_
           rotate_left
           ·go_simp
            rfl
           refine hK.out _ _ ⟨((cell_far (p := ⟨gb305, _, none⟩) NB297_305.out _).trans (((cell_far (p := ⟨gb305, _, none⟩) NB297_305.out _).trans (hHeld.1)))), ((cell_far (p := ⟨gb305, _, none⟩) NB297_305.out _).trans (((cell_far (p := ⟨gb305, _, none⟩) NB297_305.out _).trans (hHeld.2.1)))), ((cell_far (p := ⟨gb305, _, none⟩) (by first | exact Nat.ne_of_lt (Nat.lt_of_lt_of_le (by have := World.block_lt_of_cell? _ _ hw298_0; first | rwa [add_block] at this | exact this) GW305.out) | (rw [add_block]; exact Nat.ne_of_lt (Nat.lt_of_lt_of_le (by have := World.block_lt_of_cell? _ _ hw298_0; first | rwa [add_block] at this | exact this) GW305.out)) | (show (Addr.add _ _).block ≠ _; rw [add_block]; exact Nat.ne_of_lt (Nat.lt_of_lt_of_le (by have := World.block_lt_of_cell? _ _ hw298_0; first | rwa [add_block] at this | exact this) GW305.out)) | (dsimp only; exact Nat.ne_of_lt (Nat.lt_of_lt_of_le (by have := World.block_lt_of_cell? _ _ hw298_0; first | rwa [add_block] at this | exact this) GW305.out))) _).trans (((cell_far (p := ⟨gb305, _, none⟩) (by first | exact Nat.ne_of_lt (Nat.lt_of_lt_of_le (by have := World.block_lt_of_cell? _ _ hw298_0; first | rwa [add_block] at this | exact this) GW305.out) | (rw [add_block]; exact Nat.ne_of_lt (Nat.lt_of_lt_of_le (by have := World.block_lt_of_cell? _ _ hw298_0; first | rwa [add_block] at this | exact this) GW305.out)) | (show (Addr.add _ _).block ≠ _; rw [add_block]; exact Nat.ne_of_lt (Nat.lt_of_lt_of_le (by have := World.block_lt_of_cell? _ _ hw298_0; first | rwa [add_block] at this | exact this) GW305.out)) | (dsimp only; exact Nat.ne_of_lt (Nat.lt_of_lt_of_le (by have := World.block_lt_of_cell? _ _ hw298_0; first | rwa [add_block] at this | exact this) GW305.out))) _).trans (hHeld.2.2.1)))), ((cell_far (p := ⟨gb305, _, none⟩) (by first | exact Nat.ne_of_lt (Nat.lt_of_lt_of_le (by have := World.block_lt_of_cell? _ _ hw299_0; first | rwa [add_block] at this | exact this) GW305.out) | (rw [add_block]; exact Nat.ne_of_lt (Nat.lt_of_lt_of_le (by have := World.block_lt_of_cell? _ _ hw299_0; first | rwa [add_block] at this | exact this) GW305.out)) | (show (Addr.add _ _).block ≠ _; rw [add_block]; exact Nat.ne_of_lt (Nat.lt_of_lt_of_le (by have := World.block_lt_of_cell? _ _ hw299_0; first | rwa [add_block] at this | exact this) GW305.out)) | (dsimp only; exact Nat.ne_of_lt (Nat.lt_of_lt_of_le (by have := World.block_lt_of_cell? _ _ hw299_0; first | rwa [add_block] at this | exact this) GW305.out))) _).trans (((cell_far (p := ⟨gb305, _, none⟩) (by first | exact Nat.ne_of_lt (Nat.lt_of_lt_of_le (by have := World.block_lt_of_cell? _ _ hw299_0; first | rwa [add_block] at this | exact this) GW305.out) | (rw [add_block]; exact Nat.ne_of_lt (Nat.lt_of_lt_of_le (by have := World.block_lt_of_cell? _ _ hw299_0; first | rwa [add_block] at this | exact this) GW305.out)) | (show (Addr.add _ _).block ≠ _; rw [add_block]; exact Nat.ne_of_lt (Nat.lt_of_lt_of_le (by have := World.block_lt_of_cell? _ _ hw299_0; first | rwa [add_block] at this | exact this) GW305.out)) | (dsimp only; exact Nat.ne_of_lt (Nat.lt_of_lt_of_le (by have := World.block_lt_of_cell? _ _ hw299_0; first | rwa [add_block] at this | exact this) GW305.out))) _).trans (hHeld.2.2.2))))⟩ (fun hHeld => ?_)
           clear hK K
           refine G.pu 16 (some 8) (G.fl 17 131071) ?_
           refine done_ (done_of HT_.out (c19_11)) ?_
           try go_wp2
           go_ret
           exact ⟨by first | rfl | (simp [errW_none, errW_some] <;> rfl) | (simp only [← hji26]; first | rfl | (simp [errW_none, errW_some] <;> rfl)) | (simp [*, errW_none, errW_some] <;> rfl), G.cB HB.out⟩
         ·rw [if_neg c29] at H
          exact absurd H (by simp)
        ·rw [if_neg c28] at H
         exact absurd H (by simp)
       ·rw [if_neg c27] at H
        exact absurd H (by simp)
      ·rw [if_neg c25] at H
       have c25b0 : decide (x6_2 < (l1.length : Int)) = false := decide_eq_false c25
       clear c25
       obtain rfl := Option.some.inj H
       go_wp2
       go_ret
       exact ⟨by first | rfl | (simp [errW_none, errW_some] <;> rfl) | (simp [*, errW_none, errW_some] <;> rfl), G.cB HB.out⟩

end Go.Proofs.Ytbkdpnfjcnkoeaa.P
