-- Printed by a program of this session (mp.py, over the kit's print). Not trusted: Lean checks it.
import Derived.Test.YtbkdpnfjcnkoeaaF0
import Derived.Test.YtbkdpnfjcnkoeaaF5
import Derived.Test.YtbkdpnfjcnkoeaaF6
import Derived.Test.YtbkdpnfjcnkoeaaF9
namespace Go.Proofs.Ytbkdpnfjcnkoeaa.P
open Go.RowKit Go.Proofs.YtbkdpnfjcnkoeaaW.PrintWords Go.Proofs.YtbkdpnfjcnkoeaaW.PrintLast Go.Proofs.YtbkdpnfjcnkoeaaW.PrintMore
attribute [local go_sem] max2_int min2_int max_two min_two max_three min_three max_four min_four   -- for this text's walks alone
set_option linter.unusedVariables false
set_option linter.unusedSimpArgs false

theorem c18_0 {p : Prop} (h : p := by (with_reducible repeat (first | refine blk_drewN ?_ _ | refine blk_drew ?_ | refine blk_alloc ?_ _)); refine blk_put (cs := #[.int .i64 t402, .slice none 0 0]) ?_ 1 _ rfl; (with_reducible repeat (first | refine blk_drewN ?_ _ | refine blk_drew ?_ | refine blk_alloc ?_ _)); refine blk_put (cs := #[.int .i64 0, .slice none 0 0]) ?_ 0 _ rfl; (with_reducible repeat (first | refine blk_drewN ?_ _ | refine blk_drew ?_ | refine blk_alloc ?_ _)); exact BK407.out) : p := h
theorem c18_1 {p : Prop} (h : p := by (with_reducible repeat (first | refine blk_drewN ?_ _ | refine blk_drew ?_ | refine blk_alloc ?_ _)); refine blk_far ?_ NB382_394.out _; (with_reducible repeat (first | refine blk_drewN ?_ _ | refine blk_drew ?_ | refine blk_alloc ?_ _)); refine blk_far ?_ NB382_394.out _; (with_reducible repeat (first | refine blk_drewN ?_ _ | refine blk_drew ?_ | refine blk_alloc ?_ _)); exact BK382.out) : p := h
theorem c18_2 {p : Prop} (h : p := by (with_reducible repeat (first | refine blk_drewN ?_ _ | refine blk_drew ?_ | refine blk_alloc ?_ _)); refine blk_far ?_ NB382_407.out _; (with_reducible repeat (first | refine blk_drewN ?_ _ | refine blk_drew ?_ | refine blk_alloc ?_ _)); refine blk_far ?_ NB382_407.out _; (with_reducible repeat (first | refine blk_drewN ?_ _ | refine blk_drew ?_ | refine blk_alloc ?_ _)); exact BK382.out) : p := h
theorem c18_3 {p : Prop} (h : p := by (with_reducible repeat (first | refine blk_drewN ?_ _ | refine blk_drew ?_ | refine blk_alloc ?_ _)); refine blk_far ?_ NB394_407.out _; (with_reducible repeat (first | refine blk_drewN ?_ _ | refine blk_drew ?_ | refine blk_alloc ?_ _)); refine blk_far ?_ NB394_407.out _; (with_reducible repeat (first | refine blk_drewN ?_ _ | refine blk_drew ?_ | refine blk_alloc ?_ _)); exact BK394.out) : p := h
theorem c18_4 {p : Prop} (h : p := by first | exact Kd.own_blk (Kd.R_ne HO_9.out BK407.out (by decide)) | (rw [add_block]; exact Kd.own_blk (Kd.R_ne HO_9.out BK407.out (by decide))) | (show (Addr.add _ _).block ≠ _; rw [add_block]; exact Kd.own_blk (Kd.R_ne HO_9.out BK407.out (by decide))) | (dsimp only; exact Kd.own_blk (Kd.R_ne HO_9.out BK407.out (by decide)))) : p := h
theorem c18_5 {p : Prop} (h : p := by (with_reducible repeat (first | apply Kd.R_alloc | apply Kd.R_drewN | apply Kd.R_drew)); exact (Kd.R_mono (Kd.R_far (p := ⟨gb394, 1, none⟩) (Kd.R_far (p := ⟨gb394, 0, none⟩) (Kd.R_types HO_6.out BK394.out (by decide)) (fun _ hk => hk.2) (.int .i64 t402)) (fun _ hk => hk.2) (.slice Ao38 t403.length co38)) (fun _ h_ => h_.1))) : p := h
theorem c18_6 {p : Prop} (h : p := by rw [hg]; exact Nat.ne_of_lt (blk_lt (g := gb394) (o := .cells #[.int .i64 x395000_2, .slice Ao32 x395001_2.length co32] 29 (0, 0)) (G.cb BK394.out))) : p := h
theorem c18_7 {p : Prop} (h : p := by rw [hg]; exact Nat.ne_of_gt (blk_lt (g := gb394) (o := .cells #[.int .i64 x395000_2, .slice Ao32 x395001_2.length co32] 29 (0, 0)) (G.cb BK394.out))) : p := h
theorem c18_8 {p : Prop} (h : p := by rw [hg]; exact Nat.ne_of_lt (blk_lt (g := gb394) (o := .cells #[.int .i64 x395000_2, .slice Ao50 x395001_2.length co50] 29 (0, 0)) (G.cb BK394.out))) : p := h
theorem c18_9 {p : Prop} (h : p := by rw [hg]; exact Nat.ne_of_gt (blk_lt (g := gb394) (o := .cells #[.int .i64 x395000_2, .slice Ao50 x395001_2.length co50] 29 (0, 0)) (G.cb BK394.out))) : p := h
theorem c18_10 {p : Prop} (h : p := by rw [hg]; exact Nat.ne_of_lt (blk_lt (g := gb382) (o := .cells #[.int .i64 a0_0, .slice A0_1 l0_1.length c0_1] 29 (0, 0)) (G.cb BK382.out))) : p := h
theorem c18_11 {p : Prop} (h : p := by rw [hg]; exact Nat.ne_of_gt (blk_lt (g := gb382) (o := .cells #[.int .i64 a0_0, .slice A0_1 l0_1.length c0_1] 29 (0, 0)) (G.cb BK382.out))) : p := h
theorem c18_12 {p : Prop} (h : p := by (with_reducible repeat (first | apply Kd.R_alloc | apply Kd.R_drewN | apply Kd.R_drew)); exact Kd.R_mono HO_395001.out (fun _ hk => hk.2)) : p := h
theorem c18_13 {p : Prop} (h : p := by (with_reducible repeat (first | apply Kd.R_alloc | apply Kd.R_drewN | apply Kd.R_drew)); exact Kd.R_mono HO405.out (fun _ hk => hk.2)) : p := h
theorem c18_14 {p : Prop} (h : p := by first | rfl | (simp; done) | (simp [*]; done)) : p := h
theorem c18_15 {p : Prop} (h : p := by rw [hg]; exact (below_size (G.cB HB.out))) : p := h
theorem c18_16 {p : Prop} (h : p := by kernel_rfl) : p := h
theorem c18_17 {p : Prop} (h : p := by decide) : p := h
/-! ### spec_TrailOf: function 23 -/
mutual
def spec_TrailOf.l0 : Nat → List Int → Int → Int → List (S63) → Option (List Int × Bool)
 | 0, _, _, _, _ => none
 | k + 1, x6, x8, x395000, x395001 => if (x395001.length : Int) > 0 then ((spec_l2Next.f k x395000 x395001 x8).bind fun t395 => (spec_TrailOf.l1 k x6 x8 t395 0 x395000 x395001)) else (some (x6, true))
def spec_TrailOf.l1 : Nat → List Int → Int → List Int → Int → Int → List (S63) → Option (List Int × Bool)
 | 0, _, _, _, _, _, _ => none
 | k + 1, x6, x8, x9, x10, x395000, x395001 => if x10 < (x9.length : Int) then (if 0 ≤ x10 then ((spec_NetCut.f k x395000 x395001 x8 (rd x9 x10)).bind fun bt402 => ((spec_TrailCan.f k bt402.1 bt402.2.1 (rd x9 x10)).bind fun t409 => (if t409 = true then (if x6.length < 17592186044416 then (spec_TrailOf.l0 k (x6 ++ [rd x9 x10]) (rd x9 x10) bt402.1 bt402.2.1) else (none)) else (spec_TrailOf.l1 k x6 x8 x9 (wrap64 (x10 + 1)) x395000 x395001)))) else (none)) else (if x6.length < 17592186044416 then (spec_TrailOf.l0 k (x6 ++ [x8]) x8 x395000 x395001) else (none))
end
def spec_TrailOf.f (k : Nat) (a0_0 : Int) (l0_1 : List (S63)) (a1 : Int) : Option (List Int × Bool) := (some (([] : List Int) : List Int)).bind fun y383 => ((spec_TrailCan.f k a0_0 l0_1 a1).bind fun t386 => (if t386 = true then (if y383.length < 17592186044416 then ((spec_l1Copy.f a0_0 l0_1).bind fun bt390 => (spec_TrailOf.l0 k (y383 ++ [a1]) a1 bt390.1 bt390.2)) else (none)) else (some (y383, false))))
theorem spec_TrailOf.mono_l : ∀ k, (∀ y0 y1 y2 y3, LeO (spec_TrailOf.l0 k y0 y1 y2 y3) (spec_TrailOf.l0 (k + 1) y0 y1 y2 y3)) ∧ (∀ y0 y1 y2 y3 y4 y5, LeO (spec_TrailOf.l1 k y0 y1 y2 y3 y4 y5) (spec_TrailOf.l1 (k + 1) y0 y1 y2 y3 y4 y5))
 | 0 => ⟨fun _ _ _ _ r h => by simp [spec_TrailOf.l0] at h, fun _ _ _ _ _ _ r h => by simp [spec_TrailOf.l1] at h⟩
 | k + 1 => by
  obtain ⟨ih0, ih1⟩ := spec_TrailOf.mono_l k
  refine ⟨?_, ?_⟩
  ·intro y0 y1 y2 y3
   unfold spec_TrailOf.l0
   repeat' first
   | (with_reducible exact ih0 _ _ _ _)
   | (with_reducible exact ih1 _ _ _ _ _ _)
   | (with_reducible exact spec_NetCut.mono _ _ _ _ _)
   | (with_reducible exact spec_TrailCan.mono _ _ _ _)
   | (with_reducible exact spec_l2Next.mono _ _ _ _)
   | (with_reducible exact LeO.refl _)
   | (with_reducible exact LeO.none _)
   | (with_reducible refine LeO.ite ?_ ?_)
   | (with_reducible refine LeO.bind ?_ (fun _ => ?_))
   | exact ih0 _ _ _ _
   | exact ih1 _ _ _ _ _ _
   | exact spec_NetCut.mono _ _ _ _ _
   | exact spec_TrailCan.mono _ _ _ _
   | exact spec_l2Next.mono _ _ _ _
   | exact LeO.none _
   | refine LeO.ite ?_ ?_
   | refine LeO.bind ?_ (fun _ => ?_)
  ·intro y0 y1 y2 y3 y4 y5
   unfold spec_TrailOf.l1
   repeat' first
   | (with_reducible exact ih0 _ _ _ _)
   | (with_reducible exact ih1 _ _ _ _ _ _)
   | (with_reducible exact spec_NetCut.mono _ _ _ _ _)
   | (with_reducible exact spec_TrailCan.mono _ _ _ _)
   | (with_reducible exact spec_l2Next.mono _ _ _ _)
   | (with_reducible exact LeO.refl _)
   | (with_reducible exact LeO.none _)
   | (with_reducible refine LeO.ite ?_ ?_)
   | (with_reducible refine LeO.bind ?_ (fun _ => ?_))
   | exact ih0 _ _ _ _
   | exact ih1 _ _ _ _ _ _
   | exact spec_NetCut.mono _ _ _ _ _
   | exact spec_TrailCan.mono _ _ _ _
   | exact spec_l2Next.mono _ _ _ _
   | exact LeO.none _
   | refine LeO.ite ?_ ?_
   | refine LeO.bind ?_ (fun _ => ?_)
theorem spec_TrailOf.mono : ∀ a0 a1 a2 k, LeO (spec_TrailOf.f k a0 a1 a2) (spec_TrailOf.f (k + 1) a0 a1 a2) := by
 intro a0 a1 a2 k
 obtain ⟨ih0, ih1⟩ := spec_TrailOf.mono_l k
 unfold spec_TrailOf.f
 repeat' first
   | (with_reducible exact ih0 _ _ _ _)
   | (with_reducible exact ih1 _ _ _ _ _ _)
   | (with_reducible exact spec_NetCut.mono _ _ _ _ _)
   | (with_reducible exact spec_TrailCan.mono _ _ _ _)
   | (with_reducible exact spec_l2Next.mono _ _ _ _)
   | (with_reducible exact LeO.refl _)
   | (with_reducible exact LeO.none _)
   | (with_reducible refine LeO.ite ?_ ?_)
   | (with_reducible refine LeO.bind ?_ (fun _ => ?_))
   | exact ih0 _ _ _ _
   | exact ih1 _ _ _ _ _ _
   | exact spec_NetCut.mono _ _ _ _ _
   | exact spec_TrailCan.mono _ _ _ _
   | exact spec_l2Next.mono _ _ _ _
   | exact LeO.none _
   | refine LeO.ite ?_ ?_
   | refine LeO.bind ?_ (fun _ => ?_)
def spec_TrailOf.T12 : Bool × List (List Nat × List Nat) := (true, [([], []), ([], []), ([], []), ([], []), ([2, 3], [2, 3]), ([4], [4]), ([0, 1, 5], [0, 1, 5]), ([6], [6]), ([7], [7]), ([7], [7]), ([], []), ([10, 8, 6, 0, 1, 2, 3, 4, 5, 6, 7, 8, 10], [8, 10]), ([9, 11, 0, 1, 2, 3, 4, 5, 6, 7, 8, 9, 10, 11], [9])])
def spec_TrailOf.B12 : List Nat := [0, 0, 0, 0, 12, 28, 63, 127, 255, 255, 0, 1535, 4095]
theorem spec_TrailOf.tab12 : rtab .any (opsOf Try.f23 12) = spec_TrailOf.T12 := by kernel_rfl
theorem spec_TrailOf.bits12 : waitsOk spec_TrailOf.T12.2 spec_TrailOf.B12 = true := by kernel_rfl
set_option maxHeartbeats 8000000 in
set_option maxRecDepth 100000 in
theorem spec_TrailOf.calls (k : Nat) (a0_0 : Int) (A0_1 : Option Addr) (c0_1 : Nat) (l0_1 : List (S63)) (a1 : Int) (r1 : List Int) (r2 : Bool) (w : World) (hr0_1 : Kd.C k63 w A0_1 l0_1.length l0_1) (hc0_1 : l0_1.length ≤ c0_1) (h : spec_TrailOf.f k a0_0 l0_1 a1 = some (r1, r2)) :
  Calls Try.prog 23 #[.agg #[.int .i64 a0_0, .slice A0_1 l0_1.length c0_1], .int .i64 a1] w fun e w' => ∃ v0_ : Value, e = .returned (.tuple #[v0_, .bool r2]) ∧ Kd.R (Kd.int .i64) 3 w' w.heap.size (fun _ => True) v0_ r1 ∧ Below w.heap.size w w' := by
 have hu29 := Try.underlying29
 have HR0_1 := Aside0.mk hr0_1
 have HC0_1 := Aside0.mk hc0_1
 clear hr0_1 hc0_1
 have HB := Aside0.mk (Below.refl w.heap.size w)
 have H : ((some (([] : List Int) : List Int)).bind fun y383 => ((spec_TrailCan.f k a0_0 l0_1 a1).bind fun t386 => (if t386 = true then (if y383.length < 17592186044416 then ((spec_l1Copy.f a0_0 l0_1).bind fun bt390 => (spec_TrailOf.l0 k (y383 ++ [a1]) a1 bt390.1 bt390.2)) else (none)) else (some (y383, false))))) = some (r1, r2) := h
 clear h
 obtain ⟨y383, hy383⟩ : ∃ y_ : List Int, y_ = (([] : List Int)) := ⟨_, rfl⟩
 replace H : ((spec_TrailCan.f k a0_0 l0_1 a1).bind fun t386 => (if t386 = true then (if y383.length < 17592186044416 then ((spec_l1Copy.f a0_0 l0_1).bind fun bt390 => (spec_TrailOf.l0 k (y383 ++ [a1]) a1 bt390.1 bt390.2)) else (none)) else (some (y383, false)))) = some (r1, r2) := by first | (rw [hy383]; with_reducible exact H) | (have H2_ := (Option.bind_some _ _).symm.trans H; rw [hy383]; with_reducible exact H2_) | (have H2_ := (Option.bind_some _ _).symm.trans H; with_reducible exact H2_) | with_reducible exact H | (rw [hy383]; exact H) | exact H
 have Ny383 := Aside0.mk hy383
 clear hy383
 replace H := Option.bind_eq_some_iff.mp H
 obtain ⟨t386, A30, H⟩ := H
 replace H : (if t386 = true then (if y383.length < 17592186044416 then ((spec_l1Copy.f a0_0 l0_1).bind fun bt390 => (spec_TrailOf.l0 k (y383 ++ [a1]) a1 bt390.1 bt390.2)) else (none)) else (some (y383, false))) = some (r1, r2) := H
 have A3 := Aside0.mk A30
 clear A30
 by_cases c4 : t386 = true
 ·subst c4
  have H1 : (if y383.length < 17592186044416 then ((spec_l1Copy.f a0_0 l0_1).bind fun bt390 => (spec_TrailOf.l0 k (y383 ++ [a1]) a1 bt390.1 bt390.2)) else (none)) = some (r1, r2) := by rw [if_pos rfl] at H; exact H
  clear H
  have H := H1
  clear H1
  by_cases c5 : y383.length < 17592186044416
  ·rw [if_pos c5] at H
   have LMc5 := Aside0.mk c5
   clear c5
   obtain ⟨y387, hy387⟩ : ∃ y_ : List Int, y_ = (y383 ++ [a1]) := ⟨_, rfl⟩
   replace H : ((spec_l1Copy.f a0_0 l0_1).bind fun bt390 => (spec_TrailOf.l0 k y387 a1 bt390.1 bt390.2)) = some (r1, r2) := by first | (rw [hy387]; with_reducible exact H) | (have H2_ := (Option.bind_some _ _).symm.trans H; rw [hy387]; with_reducible exact H2_) | (have H2_ := (Option.bind_some _ _).symm.trans H; with_reducible exact H2_) | with_reducible exact H | (rw [hy387]; exact H) | exact H
   have Ny387 := Aside0.mk hy387
   clear hy387
   replace H := Option.bind_eq_some_iff.mp H
   obtain ⟨⟨t390, t391⟩, A60, H⟩ := H
   replace H : (spec_TrailOf.l0 k y387 a1 t390 t391) = some (r1, r2) := H
   have A6 := Aside0.mk A60
   clear A60
   have H' := Aside0.mk H
   clear H
   go_enter Try.func23, Try.ntmps23
   go_wp2_with (first | ((with_reducible refine gate_dst (N := 2) rfl ?_); refine G.be 2 #[.int .i64 a0_0, .slice A0_1 l0_1.length c0_1] 29 ?_; intro gb382 hg w7 hbox hb; have n0_ := Aside0.mk (below_step (G.cB HB.out) hb); have n1_ := Aside0.mk (hbox); have n2_ := Aside0.mk ((c18_15 : w.heap.size ≤ gb382)); have n3_ := Aside0.mk ((c18_15 : w.heap.size ≤ gb382)); clear HB; revert n0_ n1_ n2_ n3_; intro HB BK382 GW382 GE382; clear hb hbox hg) | ((with_reducible refine gate_dst (N := 13) rfl ?_); refine Kd.R_lit (Kd.int .i64) _ 3 ?hg (N := 13) ?hd (xs := ([] : List Int)) (inner := []) (ok := fun _ => True) (okp := fun _ => True) ?hr ?hp (fun _ hk => hk) trivial (Below.refl _ _) (Nat.le_refl _) (by simp) ?_; (case hd => rfl); (case hg => rfl); (case hr => first | (go_simp; done) | (go_simp; rfl)); (case hp => exact (Reps.none _ _)); intro v384 w8 ho9 hb hg_ hnew_; clear hg_ hnew_; (first | rw [← Ny383.out] at ho9 | (simp only [Int.reduceToNat] at ho9; rw [← Ny383.out] at ho9)); have n0_ := Aside0.mk (Kd.R_lower ho9 (below_size (G.cB HB.out))); have n1_ := Aside0.mk (blk_below (g := gb382) (o := .cells #[.int .i64 a0_0, .slice A0_1 l0_1.length c0_1] 29 (0, 0)) (G.cb BK382.out) hb); have n2_ := Aside0.mk (below_step (G.cB HB.out) hb); clear BK382 HB; revert n0_ n1_ n2_; intro HO385 BK382 HB; clear hb ho9; have hcz10_0 : w8.cell? ⟨gb382, 0, none⟩ = some (.int .i64 a0_0) := (blk_cell BK382.out 0).trans rfl; have hcz10_1 : w8.cell? ⟨gb382, 1, none⟩ = some (.slice A0_1 l0_1.length c0_1) := (blk_cell BK382.out 1).trans rfl; have hfz10_0 := blk_frozen BK382.out 0; have hfz10_1 := blk_frozen BK382.out 1) | ((with_reducible refine gate_callee (f := 15) rfl ?_); refine goesL_ (some 16) rfl rfl Try.func15 (c18_16) rfl #[.agg #[.int .i64 a0_0, .slice A0_1 l0_1.length c0_1], .int .i64 a1] rfl (G.ar) ?_; (with_reducible refine (spec_TrailCan.calls k a0_0 _ _ l0_1 a1 true _ ?side1 ?side2 A3.out).mono ?_); (case side1 => repeat (first | exact (Kd.C_below HR0_1.out HB.out) | (with_reducible refine Kd.C_alloc ?_ _) | (with_reducible refine Kd.C_drewN ?_ _) | (with_reducible refine Kd.C_drew ?_))); (case side2 => exact HC0_1.out); rintro e w11 ⟨rfl, hb⟩; refine ⟨_, rfl, ?_⟩; have n0_ := Aside0.mk (Kd.R_below (G.cR HO385.out) hb); have n1_ := Aside0.mk (blk_below (g := gb382) (o := .cells #[.int .i64 a0_0, .slice A0_1 l0_1.length c0_1] 29 (0, 0)) (G.cb BK382.out) hb); have n2_ := Aside0.mk (below_step (G.cB HB.out) hb); clear HO385 BK382 HB; revert n0_ n1_ n2_; intro HO385 BK382 HB; (try clear hb); (try clear hb2); (try clear hk); (try clear hi)) | ((with_reducible refine gate_builtin (b := .append) (xs := #[.tmp 19, .tmp 21]) rfl ?_); at_builtin; refine Kd.R_append (Kd.int .i64) (w0 := w) w.heap.size rfl (.tmp 19) (.tmp 21) 33 3 (.int .i64 0) 8 rfl Try.underlying33 info3 rfl (c18_17) (by omega) v384 y383 a1 [.int .i64 a1] (fun _ => True) (fun _ => False) rfl rfl ?aP (fun _ hk => hk.elim) ?aF ?aO ?aB ?aS ?aL ?_; (case aP => exact rfl); (case aB => exact (G.cB HB.out)); (case aF => exact (fun _ _ => trivial)); (case aO => exact (G.cR HO385.out)); (case aS => exact (below_size (G.cB HB.out))); (case aL => have := LMc5.out; omega); intro v388 w12 ho hb hg hat; rw [← Ny387.out] at ho; have n0_ := Aside0.mk (blk_grown (g := gb382) (o := .cells #[.int .i64 a0_0, .slice A0_1 l0_1.length c0_1] 29 (0, 0)) (G.cb BK382.out) hg (Kd.R_ne HO385.out BK382.out (c18_17))); have n1_ := Aside0.mk (hb); have n2_ := Aside0.mk (ho); clear BK382 HB HO385; revert n0_ n1_ n2_; intro BK382 HB HO389; clear ho hb hg hat; have hcz13_0 : w12.cell? ⟨gb382, 0, none⟩ = some (.int .i64 a0_0) := (blk_cell BK382.out 0).trans rfl; have hcz13_1 : w12.cell? ⟨gb382, 1, none⟩ = some (.slice A0_1 l0_1.length c0_1) := (blk_cell BK382.out 1).trans rfl; have hfz13_0 := blk_frozen BK382.out 0; have hfz13_1 := blk_frozen BK382.out 1) | ((with_reducible refine gate_callee (f := 47) rfl ?_); refine goesL_ (some 24) rfl rfl Try.func47 (c18_16) rfl #[.agg #[.int .i64 a0_0, .slice A0_1 l0_1.length c0_1]] rfl (G.ar) ?_; (with_reducible refine (spec_l1Copy.calls a0_0 _ _ l0_1 t390 t391 _ ?side1 ?side2 A6.out).mono ?_); (case side1 => repeat (first | exact (Kd.C_below HR0_1.out HB.out) | (with_reducible refine Kd.C_alloc ?_ _) | (with_reducible refine Kd.C_drewN ?_ _) | (with_reducible refine Kd.C_drew ?_))); (case side2 => exact HC0_1.out); rintro e w14 ⟨v392, rfl, ho0, hb⟩; refine ⟨_, rfl, ?_⟩; have n0_ := Aside0.mk (Kd.R_below (G.cR HO389.out) hb); have n1_ := Aside0.mk (Kd.R_lower ho0 (below_size (G.cB HB.out))); have n2_ := Aside0.mk (blk_below (g := gb382) (o := .cells #[.int .i64 a0_0, .slice A0_1 l0_1.length c0_1] 29 (0, 0)) (G.cb BK382.out) hb); have n3_ := Aside0.mk (below_step (G.cB HB.out) hb); clear HO389 BK382 HB; revert n0_ n1_ n2_ n3_; intro HO389 HO393 BK382 HB; (try clear hb); (try clear hb2); (try clear hk); (try clear hi); (try clear ho0)) | ((with_reducible refine gate_dst (N := 7) rfl ?_); refine G.be 7 #[.int .i64 0, .slice none 0 0] 29 ?_; intro gb394 hg w15 hbox hb; have n0_ := Aside0.mk (Kd.R_below (G.cR HO389.out) hb); have n1_ := Aside0.mk (Kd.R_below (G.cR HO393.out) hb); have n2_ := Aside0.mk (blk_below (g := gb382) (o := .cells #[.int .i64 a0_0, .slice A0_1 l0_1.length c0_1] 29 (0, 0)) (G.cb BK382.out) hb); have n3_ := Aside0.mk (below_step (G.cB HB.out) hb); have n4_ := Aside0.mk (hbox); have n5_ := Aside0.mk ((c18_15 : w.heap.size ≤ gb394)); have n6_ := Aside0.mk ((c18_15 : w.heap.size ≤ gb394)); have n7_ := Aside0.mk ((c18_10 : gb382 ≠ gb394)); have n8_ := Aside0.mk ((c18_11 : gb394 ≠ gb382)); clear HO389 HO393 BK382 HB; revert n0_ n1_ n2_ n3_ n4_ n5_ n6_ n7_ n8_; intro HO389 HO393 BK382 HB BK394 GW394 GE394 NB382_394 NB394_382; clear hb hbox hg; have hnb16 := NB394_382.out; have hnc16 := NB382_394.out; have hcz17_0 : w15.cell? ⟨gb394, 0, none⟩ = some (.int .i64 0) := (blk_cell BK394.out 0).trans rfl; have hcz17_1 : w15.cell? ⟨gb394, 1, none⟩ = some (.slice none 0 0) := (blk_cell BK394.out 1).trans rfl; have hfz17_0 := blk_frozen BK394.out 0; have hfz17_1 := blk_frozen BK394.out 1; obtain ⟨Ao18, co18, eo18⟩ := Kd.R_slice HO393.out; subst eo18))
   go_loopg [6, 8] k (fun kq v6 v8 w' => ∃ (x6_1 : List Int) (x8_1 : Int) (x395000_1 : Int) (x395001_1 : List (S63)) (u395001 : Value), v8 = .int .i64 x8_1 ∧ Aside0 (spec_TrailOf.l0 kq x6_1 x8_1 x395000_1 x395001_1 = some (r1, r2)) ∧ Aside0 (kq ≤ k) ∧ Aside0 (Kd.R (Kd.int .i64) 3 w' w.heap.size (fun _ => True) v6 x6_1) ∧ Aside0 (Kd.R k63 63 w' w.heap.size (fun _ => True) u395001 x395001_1) ∧ Aside0 (w'.heap[gb382]? = some (.cells #[.int .i64 a0_0, (.slice A0_1 l0_1.length c0_1)] 29 (0, 0))) ∧ Aside0 (w'.heap[gb394]? = some (.cells #[.int .i64 x395000_1, u395001] 29 (0, 0))) ∧ Aside0 (Below w.heap.size w w'))
   case atStart => exact ⟨(y387), (a1), (t390), (t391), (.slice Ao18 t391.length co18), (c18_14), H', ⟨Nat.le_refl _⟩, ⟨by (with_reducible repeat (first | apply Kd.R_alloc | apply Kd.R_drewN | apply Kd.R_drew)); exact Kd.R_mono (Kd.R_far (p := ⟨gb394, 1, none⟩) (Kd.R_far (p := ⟨gb394, 0, none⟩) (Kd.R_types HO389.out BK394.out (c18_17)) (fun _ hk => hk.2) (.int .i64 t390)) (fun _ hk => hk.2) (.slice Ao18 t391.length co18)) (fun _ hk => trivial)⟩, ⟨by (with_reducible repeat (first | apply Kd.R_alloc | apply Kd.R_drewN | apply Kd.R_drew)); exact Kd.R_mono (Kd.R_far (p := ⟨gb394, 1, none⟩) (Kd.R_far (p := ⟨gb394, 0, none⟩) (Kd.R_types HO393.out BK394.out (c18_17)) (fun _ hk => hk.2) (.int .i64 t390)) (fun _ hk => hk.2) (.slice Ao18 t391.length co18)) (fun _ hk => trivial)⟩, ⟨c18_1⟩, ⟨by (with_reducible repeat (first | refine blk_drewN ?_ _ | refine blk_drew ?_ | refine blk_alloc ?_ _)); refine blk_put (cs := #[.int .i64 t390, .slice none 0 0]) ?_ 1 _ rfl; (with_reducible repeat (first | refine blk_drewN ?_ _ | refine blk_drew ?_ | refine blk_alloc ?_ _)); refine blk_put (cs := #[.int .i64 0, .slice none 0 0]) ?_ 0 _ rfl; (with_reducible repeat (first | refine blk_drewN ?_ _ | refine blk_drew ?_ | refine blk_alloc ?_ _)); exact BK394.out⟩, ⟨G.cB HB.out⟩⟩
   case round =>
    clear H'
    (try clear c1); (try clear c2); (try clear p2); (try clear c4); (try clear c5); (try clear c15); (try clear c16); (try clear hcz10_0); (try clear hcz10_1); (try clear hcz13_0); (try clear hcz13_1); (try clear hcz17_0); (try clear hcz17_1); (try clear hfz10_0); (try clear hfz10_1); (try clear hfz13_0); (try clear hfz13_1); (try clear hfz17_0); (try clear hfz17_1)
    obtain ⟨x6_1, x8_1, x395000_1, x395001_1, u395001, rfl, HA, HK1, HO_6, HO_395001, BK382, BK394, HB⟩ := hrel
    cases gk with
    | zero => exact absurd HA.out (by simp [spec_TrailOf.l0])
    | succ k1 =>
     have H := HA.out
     clear HA
     simp only [spec_TrailOf.l0] at H
     by_cases c19 : (x395001_1.length : Int) > 0
     ·rw [if_pos c19] at H
      have c19b0 : decide (0 < (x395001_1.length : Int)) = true := decide_eq_true c19
      have c19b1 : decide (0 < x395001_1.length) = true := decide_eq_true (by omega)
      clear c19
      replace H := Option.bind_eq_some_iff.mp H
      obtain ⟨t395, A200, H⟩ := H
      replace H : (spec_TrailOf.l1 k1 x6_1 x8_1 t395 0 x395000_1 x395001_1) = some (r1, r2) := H
      have A20 := Aside0.mk A200
      clear A200
      have H' := Aside0.mk H
      clear H
      have hnb21 := NB394_382.out
      have hnc21 := NB382_394.out
      have hcz22_0 : wr.cell? ⟨gb394, 0, none⟩ = some (.int .i64 x395000_1) := (blk_cell BK394.out 0).trans rfl
      have hcz22_1 : wr.cell? ⟨gb394, 1, none⟩ = some (u395001) := (blk_cell BK394.out 1).trans rfl
      have hfz22_0 := blk_frozen BK394.out 0
      have hfz22_1 := blk_frozen BK394.out 1
      obtain ⟨Ao23, co23, eo23⟩ := Kd.R_slice HO_395001.out
      subst eo23
      go_wp2_with (first | ((with_reducible refine gate_callee (f := 40) rfl ?_); refine goesL_ (some 32) rfl rfl Try.func40 (c18_16) rfl #[.agg #[.int .i64 x395000_1, .slice Ao23 x395001_1.length co23], .int .i64 x8_1] rfl (G.ar) ?_; (with_reducible refine (spec_l2Next.calls k1 x395000_1 _ _ x395001_1 x8_1 t395 _ ?side1 ?side2 A20.out).mono ?_); (case side1 => repeat (first | exact (Kd.R_reads' HO_395001.out).2.2 | (with_reducible refine Kd.C_alloc ?_ _) | (with_reducible refine Kd.C_drewN ?_ _) | (with_reducible refine Kd.C_drew ?_))); (case side2 => exact (Kd.R_reads' HO_395001.out).2.1); rintro e w24 ⟨v396, rfl, ho0, hb⟩; refine ⟨_, rfl, ?_⟩; have n0_ := Aside0.mk (Kd.R_elder' (G.cR HO_6.out) (Kd.R_base ho0) hb); have n1_ := Aside0.mk (Kd.R_below (G.cR HO_395001.out) hb); have n2_ := Aside0.mk (Kd.R_lower (Kd.R_new' ho0 (Kd.R_lt (G.cR HO_6.out))) (below_size (G.cB HB.out))); have n3_ := Aside0.mk (blk_below (g := gb382) (o := .cells #[.int .i64 a0_0, .slice A0_1 l0_1.length c0_1] 29 (0, 0)) (G.cb BK382.out) hb); have n4_ := Aside0.mk (blk_below (g := gb394) (o := .cells #[.int .i64 x395000_1, .slice Ao23 x395001_1.length co23] 29 (0, 0)) (G.cb BK394.out) hb); have n5_ := Aside0.mk (below_step (G.cB HB.out) hb); clear HO_6 HO_395001 BK382 BK394 HB; revert n0_ n1_ n2_ n3_ n4_ n5_; intro HO_6 HO_395001 HO397 BK382 BK394 HB; (try clear hb); (try clear hb2); (try clear hk); (try clear hi); (try clear ho0)))
      go_loopg [8, 10] k1 (fun kq v8 v10 w' => ∃ (x8_2 : Int) (x10_2 : Int) (x395000_2 : Int) (x395001_2 : List (S63)) (u395001 : Value), v8 = .int .i64 x8_2 ∧ v10 = .int .i64 x10_2 ∧ Aside0 (spec_TrailOf.l1 kq x6_1 x8_2 t395 x10_2 x395000_2 x395001_2 = some (r1, r2)) ∧ Aside0 (kq ≤ k1) ∧ Aside0 (Kd.R (Kd.int .i64) 3 w' w.heap.size (fun k_ => some k_ ≠ (v396 : Value).ownBlock) u6 x6_1) ∧ Aside0 (Kd.R (Kd.int .i64) 3 w' w.heap.size (fun k_ => some k_ ≠ (u6 : Value).ownBlock) v396 t395) ∧ Aside0 (Kd.R k63 63 w' w.heap.size (fun _ => True) u395001 x395001_2) ∧ Aside0 (w'.heap[gb382]? = some (.cells #[.int .i64 a0_0, (.slice A0_1 l0_1.length c0_1)] 29 (0, 0))) ∧ Aside0 (w'.heap[gb394]? = some (.cells #[.int .i64 x395000_2, u395001] 29 (0, 0))) ∧ Aside0 (Below w.heap.size w w'))
      case atStart => exact ⟨(x8_1), (0), (x395000_1), (x395001_1), (.slice Ao23 x395001_1.length co23), (c18_14), (c18_14), H', ⟨Nat.le_refl _⟩, ⟨by (with_reducible repeat (first | apply Kd.R_alloc | apply Kd.R_drewN | apply Kd.R_drew)); exact Kd.R_mono HO_6.out (fun _ hk => hk.2)⟩, ⟨by (with_reducible repeat (first | apply Kd.R_alloc | apply Kd.R_drewN | apply Kd.R_drew)); exact Kd.R_mono HO397.out (fun _ hk => hk.2)⟩, ⟨G.cR HO_395001.out⟩, ⟨G.cb BK382.out⟩, ⟨G.cb BK394.out⟩, ⟨G.cB HB.out⟩⟩
      case round =>
       clear H'
       (try clear c1); (try clear c2); (try clear p2); (try clear c4); (try clear c5); (try clear c15); (try clear c16); (try clear c19); (try clear c19b0); (try clear c19b1); (try clear c21); (try clear c23); (try clear hcz10_0); (try clear hcz10_1); (try clear hcz13_0); (try clear hcz13_1); (try clear hcz17_0); (try clear hcz17_1); (try clear hcz22_0); (try clear hcz22_1); (try clear hfz10_0); (try clear hfz10_1); (try clear hfz13_0); (try clear hfz13_1); (try clear hfz17_0); (try clear hfz17_1); (try clear hfz22_0); (try clear hfz22_1); (try clear p2)
       obtain ⟨x8_2, x10_2, x395000_2, x395001_2, u395001, rfl, rfl, HA, HK2, HO_6, HO_9, HO_395001, BK382, BK394, HB⟩ := hrel
       cases gk with
       | zero => exact absurd HA.out (by simp [spec_TrailOf.l1])
       | succ k2 =>
        have H := HA.out
        clear HA
        simp only [spec_TrailOf.l1] at H
        by_cases c25 : x10_2 < (t395.length : Int)
        ·rw [if_pos c25] at H
         have c25b0 : decide (x10_2 < (t395.length : Int)) = true := decide_eq_true c25
         clear c25
         by_cases c26 : 0 ≤ x10_2
         ·rw [if_pos c26] at H
          have c26b0 : decide (0 ≤ x10_2) = true := decide_eq_true c26
          clear c26
          replace H := Option.bind_eq_some_iff.mp H
          obtain ⟨⟨t402, t403, t406⟩, A270, H⟩ := H
          replace H : ((spec_TrailCan.f k2 t402 t403 (rd t395 x10_2)).bind fun t409 => (if t409 = true then (if x6_1.length < 17592186044416 then (spec_TrailOf.l0 k2 (x6_1 ++ [rd t395 x10_2]) (rd t395 x10_2) t402 t403) else (none)) else (spec_TrailOf.l1 k2 x6_1 x8_2 t395 (wrap64 (x10_2 + 1)) x395000_2 x395001_2))) = some (r1, r2) := H
          have A27 := Aside0.mk A270
          clear A270
          replace H := Option.bind_eq_some_iff.mp H
          obtain ⟨t409, A280, H⟩ := H
          replace H : (if t409 = true then (if x6_1.length < 17592186044416 then (spec_TrailOf.l0 k2 (x6_1 ++ [rd t395 x10_2]) (rd t395 x10_2) t402 t403) else (none)) else (spec_TrailOf.l1 k2 x6_1 x8_2 t395 (wrap64 (x10_2 + 1)) x395000_2 x395001_2)) = some (r1, r2) := H
          have A28 := Aside0.mk A280
          clear A280
          by_cases c29 : t409 = true
          ·subst c29
           have H1 : (if x6_1.length < 17592186044416 then (spec_TrailOf.l0 k2 (x6_1 ++ [rd t395 x10_2]) (rd t395 x10_2) t402 t403) else (none)) = some (r1, r2) := by rw [if_pos rfl] at H; exact H
           clear H
           have H := H1
           clear H1
           by_cases c30 : x6_1.length < 17592186044416
           ·rw [if_pos c30] at H
            have LMc30 := Aside0.mk c30
            clear c30
            obtain ⟨y411, hy411⟩ : ∃ y_ : List Int, y_ = (x6_1 ++ [rd t395 x10_2]) := ⟨_, rfl⟩
            replace H : (spec_TrailOf.l0 k2 y411 (rd t395 x10_2) t402 t403) = some (r1, r2) := by first | (rw [hy411]; with_reducible exact H) | (have H2_ := (Option.bind_some _ _).symm.trans H; rw [hy411]; with_reducible exact H2_) | (have H2_ := (Option.bind_some _ _).symm.trans H; with_reducible exact H2_) | with_reducible exact H | (rw [hy411]; exact H) | exact H
            have Ny411 := Aside0.mk hy411
            clear hy411
            have H' := Aside0.mk H
            clear H
            obtain ⟨Ao31, co31, eo31⟩ := Kd.R_slice HO_9.out
            subst eo31
            obtain ⟨Ao32, co32, eo32⟩ := Kd.R_slice HO_395001.out
            subst eo32
            try go_wp2
            have n0_ := Aside0.mk (Kd.R_drew HO_6.out)
            have n1_ := Aside0.mk (Kd.R_drew HO_9.out)
            have n2_ := Aside0.mk (Kd.R_drew HO_395001.out)
            have n3_ := Aside0.mk (blk_drew BK382.out)
            have n4_ := Aside0.mk (blk_drew BK394.out)
            have n5_ := Aside0.mk (below_drew1 HB.out)
            clear HO_6 HO_9 HO_395001 BK382 BK394 HB
            revert n0_ n1_ n2_ n3_ n4_ n5_
            intro HO_6 HO_9 HO_395001 BK382 BK394 HB
            have p401 : 0 ≤ (x10_2 : Int) := of_decide_eq_true (G.asm)
            have q401 : x10_2 < (t395.length : Int) := of_decide_eq_true (G.asm)
            obtain ⟨ad401, e401, hx401_0⟩ := Kd.at_int (Kd.R_reads' HO_9.out).2.2 x10_2 p401 q401
            cases e401
            replace p401 := eq_true p401
            replace q401 := eq_true q401
            refine start_ (n := 13) (S := fun w' => w'.cell? ⟨gb394, 0, none⟩ = some (.int .i64 x395000_2) ∧ w'.cell? ⟨gb394, 1, none⟩ = some (.slice Ao32 x395001_2.length co32) ∧ w'.cell? (ad401.add (x10_2).toNat) = some (.int .i64 (rd t395 x10_2))) (ds := []) (G.fl 13 0) (c18_16) rfl (c18_16) ⟨(blk_cell BK394.out 0).trans rfl, (blk_cell BK394.out 1).trans rfl, hx401_0⟩ (fun hHeld => ?_); refine with_tabW spec_TrailOf.tab12 spec_TrailOf.bits12 (fun HT_ HW_ => ?_)
            generalize wr.drew = w33 at HO_6 HO_9 HO_395001 BK382 BK394 HB hx401_0 hHeld ⊢
            refine G.pu 1 (some 41) (G.fl 13 2) ?_
            refine G.pu 2 (some 42) (G.fl 13 6) ?_
            refine G.pu 3 (some 43) (G.fl 13 14) ?_
            refine G.pu 4 (some 44) (G.fl 13 30) ?_
            refine G.ta3 0 (some 40) (G.fl 13 31) ?_
            refine G.ta3 5 (some 45) (G.fl 13 63) ?_
            refine join_ (σ := Value × Nat) 2 #[true, true, true, true, true, true, true, true, true, true, true, false, false] (fun s_ => [(46, .tuple #[.agg #[.int .i64 t402, s_.1], .bool t406]), (11, .pointer (some ⟨s_.2, 0, none⟩)), (39, .tuple #[.agg #[.int .i64 t402, s_.1], .bool t406]), (47, .agg #[.int .i64 t402, s_.1]), (48, .bool t406)]) (fun s_ w' => (w'.cell? ⟨gb394, 0, none⟩ = some (.int .i64 x395000_2) ∧ w'.cell? ⟨gb394, 1, none⟩ = some (.slice Ao32 x395001_2.length co32) ∧ w'.cell? (ad401.add (x10_2).toNat) = some (.int .i64 (rd t395 x10_2))) ∧ (Kd.R k63 63 w' w.heap.size (fun k_ => some k_ ≠ (.slice Ao32 x395001_2.length co32 : Value).ownBlock) s_.1 t403) ∧ (Kd.R k63 63 w' w.heap.size (fun k_ => some k_ ≠ (s_.1 : Value).ownBlock) (.slice Ao32 x395001_2.length co32) x395001_2) ∧ (Kd.R (Kd.int .i64) 3 w' w.heap.size (fun k_ => some k_ ≠ (.slice (some ad401) t395.length co31 : Value).ownBlock) u6 x6_1) ∧ (Kd.R (Kd.int .i64) 3 w' w.heap.size (fun k_ => some k_ ≠ (u6 : Value).ownBlock) (.slice (some ad401) t395.length co31) t395) ∧ (w'.heap[gb382]? = some (.cells #[.int .i64 a0_0, .slice A0_1 l0_1.length c0_1] 29 (0, 0))) ∧ (w'.heap[gb394]? = some (.cells #[.int .i64 x395000_2, .slice Ao32 x395001_2.length co32] 29 (0, 0))) ∧ (w'.heap[s_.2]? = some (.cells #[.int .i64 0, .slice none 0 0] 29 (0, 0))) ∧ (w.heap.size ≤ s_.2) ∧ (w.heap.size ≤ s_.2) ∧ (gb382 ≠ s_.2) ∧ (s_.2 ≠ gb382) ∧ (gb394 ≠ s_.2) ∧ (s_.2 ≠ gb394) ∧ (Below w.heap.size w w')) ?_ ?_
            rotate_left
            ·intro hCont
             refine two_ (i := 6) (j := 10) (Ni := some 46) (Nj := some 11) #[true, true, true, true, true, true, true, false, false, false, false, false, false] #[true, true, true, true, true, true, false, false, false, false, true, false, false] rfl rfl rfl rfl (two_of HT_.out (c18_16)) (c18_17) (c18_17) (fun K hK => ?_) (fun K hK => ?_)
             ·skip
              refine goes_ Try.func48 (c18_16) rfl #[.agg #[.int .i64 x395000_2, .slice Ao32 x395001_2.length co32], .int .i64 x8_2, .int .i64 (rd t395 x10_2)] (by rfl) rfl rfl (G.ar) ?_
              with_reducible refine (spec_NetCut.calls k2 x395000_2 _ _ x395001_2 x8_2 (rd t395 x10_2) t402 t403 t406 _ ?side1 ?side2 A27.out).mono ?_
              (case side1 => repeat (first | exact (Kd.R_reads' HO_395001.out).2.2 | (with_reducible refine Kd.C_alloc ?_ _) | (with_reducible refine Kd.C_drewN ?_ _) | (with_reducible refine Kd.C_drew ?_)))
              (case side2 => exact (Kd.R_reads' HO_395001.out).2.1)
              rintro e w34 ⟨v404, rfl, ho0, hb⟩
              have HS2_ := (hb.cell (World.block_lt_of_cell? _ _ (hHeld.2.2))).trans (hHeld.2.2)
              refine ⟨_, rfl, ?_⟩
              have n0_ := Aside0.mk (Kd.R_below (G.cR HO_6.out) hb)
              have n1_ := Aside0.mk (Kd.R_below (G.cR HO_9.out) hb)
              have n2_ := Aside0.mk (Kd.R_elder' (G.cR HO_395001.out) (Kd.R_base ho0) hb)
              have n3_ := Aside0.mk (Kd.R_lower (Kd.R_new' ho0 (Kd.R_lt (G.cR HO_395001.out))) (below_size (G.cB HB.out)))
              have n4_ := Aside0.mk (blk_below (g := gb382) (o := .cells #[.int .i64 a0_0, .slice A0_1 l0_1.length c0_1] 29 (0, 0)) (G.cb BK382.out) hb)
              have n5_ := Aside0.mk (blk_below (g := gb394) (o := .cells #[.int .i64 x395000_2, .slice Ao32 x395001_2.length co32] 29 (0, 0)) (G.cb BK394.out) hb)
              have n6_ := Aside0.mk (below_step (G.cB HB.out) hb)
              clear HO_6 HO_9 HO_395001 BK382 BK394 HB
              revert n0_ n1_ n2_ n3_ n4_ n5_ n6_
              intro HO_6 HO_9 HO_395001 HO405 BK382 BK394 HB
              (try clear hb)
              (try clear hb2)
              (try clear hk)
              (try clear hi)
              (try clear ho0)
              refine hK.out _ _ ⟨(blk_cell BK394.out 0).trans rfl, (blk_cell BK394.out 1).trans rfl, HS2_⟩ (fun hHeld => ?_)
              clear hK K
              refine G.no (some 46) ?_
              refine G.pu 7 (some 39) (G.fl 13 255) ?_
              refine G.pu 8 (some 47) (G.fl 13 511) ?_
              refine G.pu 9 (some 48) (G.fl 13 1023) ?_
              refine one_ (i := 10) (N := some 11) (G.fl 13 2047) rfl rfl (one_of HT_.out (c18_16)) (c18_17) (fun K hK => ?_)
              refine box_step ?hg (N := 11) ?hd (cs := #[.int .i64 0, .slice none 0 0]) (t := 29) ?hr ?_; (case hd => rfl); (case hg => rfl); (case hr => first | (go_simp; done) | (go_simp; rfl))
              intro gb407 hg w35 hbox hb
              have HS2_ := (hb.cell (World.block_lt_of_cell? _ _ (hHeld.2.2))).trans (hHeld.2.2)
              have n0_ := Aside0.mk (Kd.R_below (G.cR HO_6.out) hb)
              have n1_ := Aside0.mk (Kd.R_below (G.cR HO_9.out) hb)
              have n2_ := Aside0.mk (Kd.R_below (G.cR HO_395001.out) hb)
              have n3_ := Aside0.mk (Kd.R_below (G.cR HO405.out) hb)
              have n4_ := Aside0.mk (blk_below (g := gb382) (o := .cells #[.int .i64 a0_0, .slice A0_1 l0_1.length c0_1] 29 (0, 0)) (G.cb BK382.out) hb)
              have n5_ := Aside0.mk (blk_below (g := gb394) (o := .cells #[.int .i64 x395000_2, .slice Ao32 x395001_2.length co32] 29 (0, 0)) (G.cb BK394.out) hb)
              have n6_ := Aside0.mk (below_step (G.cB HB.out) hb)
              have n7_ := Aside0.mk (hbox)
              have n8_ := Aside0.mk ((c18_15 : w.heap.size ≤ gb407))
              have n9_ := Aside0.mk ((c18_15 : w.heap.size ≤ gb407))
              have n10_ := Aside0.mk ((c18_10 : gb382 ≠ gb407))
              have n11_ := Aside0.mk ((c18_11 : gb407 ≠ gb382))
              have n12_ := Aside0.mk ((c18_6 : gb394 ≠ gb407))
              have n13_ := Aside0.mk ((c18_7 : gb407 ≠ gb394))
              clear HO_6 HO_9 HO_395001 HO405 BK382 BK394 HB
              revert n0_ n1_ n2_ n3_ n4_ n5_ n6_ n7_ n8_ n9_ n10_ n11_ n12_ n13_
              intro HO_6 HO_9 HO_395001 HO405 BK382 BK394 HB BK407 GW407 GE407 NB382_407 NB407_382 NB394_407 NB407_394
              clear hb hbox hg
              refine hK.out _ _ ⟨(blk_cell BK394.out 0).trans rfl, (blk_cell BK394.out 1).trans rfl, HS2_⟩ (fun hHeld => ?_)
              clear hK K
              refine G.no (some 11) ?_
              exact norm_ (by simp only [putAll, Act.put, List.setIfInBounds_toArray, List.set_cons_zero, List.set_cons_succ]) (hCont (v404, gb407) _ ⟨hHeld, (c18_13), (c18_12), (G.cR HO_6.out), (G.cR HO_9.out), (G.cb BK382.out), (G.cb BK394.out), (G.cb BK407.out), GW407.out, GE407.out, NB382_407.out, NB407_382.out, NB394_407.out, NB407_394.out, (G.cB HB.out)⟩)
             ·skip
              refine box_step ?hg (N := 11) ?hd (cs := #[.int .i64 0, .slice none 0 0]) (t := 29) ?hr ?_; (case hd => rfl); (case hg => rfl); (case hr => first | (go_simp; done) | (go_simp; rfl))
              intro gb407 hg w34 hbox hb
              have HS2_ := (hb.cell (World.block_lt_of_cell? _ _ (hHeld.2.2))).trans (hHeld.2.2)
              have n0_ := Aside0.mk (Kd.R_below (G.cR HO_6.out) hb)
              have n1_ := Aside0.mk (Kd.R_below (G.cR HO_9.out) hb)
              have n2_ := Aside0.mk (Kd.R_below (G.cR HO_395001.out) hb)
              have n3_ := Aside0.mk (blk_below (g := gb382) (o := .cells #[.int .i64 a0_0, .slice A0_1 l0_1.length c0_1] 29 (0, 0)) (G.cb BK382.out) hb)
              have n4_ := Aside0.mk (blk_below (g := gb394) (o := .cells #[.int .i64 x395000_2, .slice Ao32 x395001_2.length co32] 29 (0, 0)) (G.cb BK394.out) hb)
              have n5_ := Aside0.mk (below_step (G.cB HB.out) hb)
              have n6_ := Aside0.mk (hbox)
              have n7_ := Aside0.mk ((c18_15 : w.heap.size ≤ gb407))
              have n8_ := Aside0.mk ((c18_15 : w.heap.size ≤ gb407))
              have n9_ := Aside0.mk ((c18_10 : gb382 ≠ gb407))
              have n10_ := Aside0.mk ((c18_11 : gb407 ≠ gb382))
              have n11_ := Aside0.mk ((c18_6 : gb394 ≠ gb407))
              have n12_ := Aside0.mk ((c18_7 : gb407 ≠ gb394))
              clear HO_6 HO_9 HO_395001 BK382 BK394 HB
              revert n0_ n1_ n2_ n3_ n4_ n5_ n6_ n7_ n8_ n9_ n10_ n11_ n12_
              intro HO_6 HO_9 HO_395001 BK382 BK394 HB BK407 GW407 GE407 NB382_407 NB407_382 NB394_407 NB407_394
              clear hb hbox hg
              refine hK.out _ _ ⟨(blk_cell BK394.out 0).trans rfl, (blk_cell BK394.out 1).trans rfl, HS2_⟩ (fun hHeld => ?_)
              clear hK K
              refine G.no (some 11) ?_
              refine one_ (i := 6) (N := some 46) (G.fl 13 1151) rfl rfl (one_of HT_.out (c18_16)) (c18_17) (fun K hK => ?_)
              refine goes_ Try.func48 (c18_16) rfl #[.agg #[.int .i64 x395000_2, .slice Ao32 x395001_2.length co32], .int .i64 x8_2, .int .i64 (rd t395 x10_2)] (by rfl) rfl rfl (G.ar) ?_
              with_reducible refine (spec_NetCut.calls k2 x395000_2 _ _ x395001_2 x8_2 (rd t395 x10_2) t402 t403 t406 _ ?side1 ?side2 A27.out).mono ?_
              (case side1 => repeat (first | exact (Kd.R_reads' HO_395001.out).2.2 | (with_reducible refine Kd.C_alloc ?_ _) | (with_reducible refine Kd.C_drewN ?_ _) | (with_reducible refine Kd.C_drew ?_)))
              (case side2 => exact (Kd.R_reads' HO_395001.out).2.1)
              rintro e w35 ⟨v404, rfl, ho0, hb⟩
              have HS2_ := (hb.cell (World.block_lt_of_cell? _ _ (hHeld.2.2))).trans (hHeld.2.2)
              refine ⟨_, rfl, ?_⟩
              have n0_ := Aside0.mk (Kd.R_below (G.cR HO_6.out) hb)
              have n1_ := Aside0.mk (Kd.R_below (G.cR HO_9.out) hb)
              have n2_ := Aside0.mk (Kd.R_elder' (G.cR HO_395001.out) (Kd.R_base ho0) hb)
              have n3_ := Aside0.mk (Kd.R_lower (Kd.R_new' ho0 (Kd.R_lt (G.cR HO_395001.out))) (below_size (G.cB HB.out)))
              have n4_ := Aside0.mk (blk_below (g := gb382) (o := .cells #[.int .i64 a0_0, .slice A0_1 l0_1.length c0_1] 29 (0, 0)) (G.cb BK382.out) hb)
              have n5_ := Aside0.mk (blk_below (g := gb394) (o := .cells #[.int .i64 x395000_2, .slice Ao32 x395001_2.length co32] 29 (0, 0)) (G.cb BK394.out) hb)
              have n6_ := Aside0.mk (blk_below (g := gb407) (o := .cells #[.int .i64 0, .slice none 0 0] 29 (0, 0)) (G.cb BK407.out) hb)
              have n7_ := Aside0.mk (below_step (G.cB HB.out) hb)
              clear HO_6 HO_9 HO_395001 BK382 BK394 BK407 HB
              revert n0_ n1_ n2_ n3_ n4_ n5_ n6_ n7_
              intro HO_6 HO_9 HO_395001 HO405 BK382 BK394 BK407 HB
              (try clear hb)
              (try clear hb2)
              (try clear hk)
              (try clear hi)
              (try clear ho0)
              refine hK.out _ _ ⟨(blk_cell BK394.out 0).trans rfl, (blk_cell BK394.out 1).trans rfl, HS2_⟩ (fun hHeld => ?_)
              clear hK K
              refine G.no (some 46) ?_
              refine G.pu 7 (some 39) (G.fl 13 1279) ?_
              refine G.pu 8 (some 47) (G.fl 13 1535) ?_
              refine G.pu 9 (some 48) (G.fl 13 2047) ?_
              exact norm_ (by simp only [putAll, Act.put, List.setIfInBounds_toArray, List.set_cons_zero, List.set_cons_succ]) (hCont (v404, gb407) _ ⟨hHeld, (c18_13), (c18_12), (G.cR HO_6.out), (G.cR HO_9.out), (G.cb BK382.out), (G.cb BK394.out), (G.cb BK407.out), GW407.out, GE407.out, NB382_407.out, NB407_382.out, NB394_407.out, NB407_394.out, (G.cB HB.out)⟩)
            rintro ⟨v404, gb407⟩ w36 ⟨hS_, h0_, h1_, h2_, h3_, h4_, h5_, h6_, h7_, h8_, h9_, h10_, h11_, h12_, h13_⟩
            have n0_ : Aside0 (Kd.R k63 63 w36 w.heap.size (fun k_ => some k_ ≠ (.slice Ao32 x395001_2.length co32 : Value).ownBlock) v404 t403) := ⟨h0_⟩
            have n1_ : Aside0 (Kd.R k63 63 w36 w.heap.size (fun k_ => some k_ ≠ (v404 : Value).ownBlock) (.slice Ao32 x395001_2.length co32) x395001_2) := ⟨h1_⟩
            have n2_ : Aside0 (Kd.R (Kd.int .i64) 3 w36 w.heap.size (fun k_ => some k_ ≠ (.slice (some ad401) t395.length co31 : Value).ownBlock) u6 x6_1) := ⟨h2_⟩
            have n3_ : Aside0 (Kd.R (Kd.int .i64) 3 w36 w.heap.size (fun k_ => some k_ ≠ (u6 : Value).ownBlock) (.slice (some ad401) t395.length co31) t395) := ⟨h3_⟩
            have n4_ : Aside0 (w36.heap[gb382]? = some (.cells #[.int .i64 a0_0, .slice A0_1 l0_1.length c0_1] 29 (0, 0))) := ⟨h4_⟩
            have n5_ : Aside0 (w36.heap[gb394]? = some (.cells #[.int .i64 x395000_2, .slice Ao32 x395001_2.length co32] 29 (0, 0))) := ⟨h5_⟩
            have n6_ : Aside0 (w36.heap[gb407]? = some (.cells #[.int .i64 0, .slice none 0 0] 29 (0, 0))) := ⟨h6_⟩
            have n7_ : Aside0 (w.heap.size ≤ gb407) := ⟨h7_⟩
            have n8_ : Aside0 (w.heap.size ≤ gb407) := ⟨h8_⟩
            have n9_ : Aside0 (gb382 ≠ gb407) := ⟨h9_⟩
            have n10_ : Aside0 (gb407 ≠ gb382) := ⟨h10_⟩
            have n11_ : Aside0 (gb394 ≠ gb407) := ⟨h11_⟩
            have n12_ : Aside0 (gb407 ≠ gb394) := ⟨h12_⟩
            have n13_ : Aside0 (Below w.heap.size w w36) := ⟨h13_⟩
            clear HO_6 HO_9 HO_395001 BK382 BK394 HB
            clear h0_ h1_ h2_ h3_ h4_ h5_ h6_ h7_ h8_ h9_ h10_ h11_ h12_ h13_
            revert n0_ n1_ n2_ n3_ n4_ n5_ n6_ n7_ n8_ n9_ n10_ n11_ n12_ n13_
            intro HO405 HO_395001 HO_6 HO_9 BK382 BK394 BK407 GW407 GE407 NB382_407 NB407_382 NB394_407 NB407_394 HB
            have hHeld : w36.cell? ⟨gb394, 0, none⟩ = some (.int .i64 x395000_2) ∧ w36.cell? ⟨gb394, 1, none⟩ = some (.slice Ao32 x395001_2.length co32) ∧ w36.cell? (ad401.add (x10_2).toNat) = some (.int .i64 (rd t395 x10_2)) := hS_
            obtain ⟨Ao38, co38, eo38⟩ := Kd.R_slice HO405.out
            (first | subst eo38 | (injection eo38 with f1_ f2_ f3_; have f4_ := f1_.symm; have f5_ := f3_.symm; clear f1_ f2_ f3_; subst f4_; subst f5_))
            refine norm_ (a' := ?_) ?_ ?_
            rotate_left
            ·simp only [putAll, Act.put, List.setIfInBounds_toArray, List.set_cons_zero, List.set_cons_succ]
             rfl
            refine one_ (i := 11) (N := none) (G.fl 13 4095) rfl rfl (one_of HT_.out (c18_16)) (c18_17) (fun K hK => ?_)
            have hs37 : w36.cell? ⟨gb407, 0, none⟩ = some (.int .i64 0) := (blk_cell BK407.out 0).trans rfl
            have hfs37 := blk_frozen BK407.out 0
            have hns37_0 := NB382_407.out
            have hns37_1 := NB394_407.out
            have hms37_0 := NB407_382.out
            have hms37_1 := NB407_394.out
            have hs39 : w36.cell? ⟨gb407, 1, none⟩ = some (.slice none 0 0) := (blk_cell BK407.out 1).trans rfl
            have hfs39 := blk_frozen BK407.out 1
            have hns39_0 := NB382_407.out
            have hns39_1 := NB394_407.out
            have hms39_0 := NB407_382.out
            have hms39_1 := NB407_394.out
            refine skip_ (w1 := ?_) (by rfl) rfl ?_ ?_
            rotate_left
            ·go_simp
             rfl
            refine hK.out _ _ ⟨((cell_far (p := ⟨gb407, _, none⟩) NB394_407.out _).trans (((cell_far (p := ⟨gb407, _, none⟩) NB394_407.out _).trans (hHeld.1)))), ((cell_far (p := ⟨gb407, _, none⟩) NB394_407.out _).trans (((cell_far (p := ⟨gb407, _, none⟩) NB394_407.out _).trans (hHeld.2.1)))), ((cell_far (p := ⟨gb407, _, none⟩) (c18_4) _).trans (((cell_far (p := ⟨gb407, _, none⟩) (c18_4) _).trans (hHeld.2.2))))⟩ (fun hHeld => ?_)
            clear hK K
            refine G.pu 12 (some 12) (G.fl 13 8191) ?_
            refine done_ (done_of HT_.out (c18_16)) ?_
            try go_wp2
            have n0_ : Aside0 (Kd.R (Kd.int .i64) 3 ((w36.setCell ⟨gb407, 0, none⟩ (.int .i64 t402)).setCell ⟨gb407, 1, none⟩ (.slice Ao38 t403.length co38)) w.heap.size (fun k_ => some k_ ≠ (.slice (some ad401) t395.length co31 : Value).ownBlock) u6 x6_1) := ⟨by (with_reducible repeat (first | apply Kd.R_alloc | apply Kd.R_drewN | apply Kd.R_drew)); exact Kd.R_mono (Kd.R_far (p := ⟨gb407, 1, none⟩) (Kd.R_far (p := ⟨gb407, 0, none⟩) (Kd.R_types HO_6.out BK407.out (c18_17)) (fun _ hk => hk.2) (.int .i64 t402)) (fun _ hk => hk.2) (.slice Ao38 t403.length co38)) (fun _ hk => hk.1)⟩
            have n1_ : Aside0 (Kd.R (Kd.int .i64) 3 ((w36.setCell ⟨gb407, 0, none⟩ (.int .i64 t402)).setCell ⟨gb407, 1, none⟩ (.slice Ao38 t403.length co38)) w.heap.size (fun k_ => some k_ ≠ (u6 : Value).ownBlock) (.slice (some ad401) t395.length co31) t395) := ⟨by (with_reducible repeat (first | apply Kd.R_alloc | apply Kd.R_drewN | apply Kd.R_drew)); exact Kd.R_mono (Kd.R_far (p := ⟨gb407, 1, none⟩) (Kd.R_far (p := ⟨gb407, 0, none⟩) (Kd.R_types HO_9.out BK407.out (c18_17)) (fun _ hk => hk.2) (.int .i64 t402)) (fun _ hk => hk.2) (.slice Ao38 t403.length co38)) (fun _ hk => hk.1)⟩
            have n2_ : Aside0 (Kd.R k63 63 ((w36.setCell ⟨gb407, 0, none⟩ (.int .i64 t402)).setCell ⟨gb407, 1, none⟩ (.slice Ao38 t403.length co38)) w.heap.size (fun k_ => some k_ ≠ (.slice Ao38 t403.length co38 : Value).ownBlock) (.slice Ao32 x395001_2.length co32) x395001_2) := ⟨by (with_reducible repeat (first | apply Kd.R_alloc | apply Kd.R_drewN | apply Kd.R_drew)); exact Kd.R_mono (Kd.R_far (p := ⟨gb407, 1, none⟩) (Kd.R_far (p := ⟨gb407, 0, none⟩) (Kd.R_types HO_395001.out BK407.out (c18_17)) (fun _ hk => hk.2) (.int .i64 t402)) (fun _ hk => hk.2) (.slice Ao38 t403.length co38)) (fun _ hk => hk.1)⟩
            have n3_ : Aside0 (Kd.R k63 63 ((w36.setCell ⟨gb407, 0, none⟩ (.int .i64 t402)).setCell ⟨gb407, 1, none⟩ (.slice Ao38 t403.length co38)) w.heap.size (fun k_ => some k_ ≠ (.slice Ao32 x395001_2.length co32 : Value).ownBlock) (.slice Ao38 t403.length co38) t403) := ⟨by (with_reducible repeat (first | apply Kd.R_alloc | apply Kd.R_drewN | apply Kd.R_drew)); exact Kd.R_mono (Kd.R_far (p := ⟨gb407, 1, none⟩) (Kd.R_far (p := ⟨gb407, 0, none⟩) (Kd.R_types HO405.out BK407.out (c18_17)) (fun _ hk => hk.2) (.int .i64 t402)) (fun _ hk => hk.2) (.slice Ao38 t403.length co38)) (fun _ hk => hk.1)⟩
            have n4_ : Aside0 (((w36.setCell ⟨gb407, 0, none⟩ (.int .i64 t402)).setCell ⟨gb407, 1, none⟩ (.slice Ao38 t403.length co38)).heap[gb382]? = some (.cells #[.int .i64 a0_0, .slice A0_1 l0_1.length c0_1] 29 (0, 0))) := ⟨c18_2⟩
            have n5_ : Aside0 (((w36.setCell ⟨gb407, 0, none⟩ (.int .i64 t402)).setCell ⟨gb407, 1, none⟩ (.slice Ao38 t403.length co38)).heap[gb394]? = some (.cells #[.int .i64 x395000_2, .slice Ao32 x395001_2.length co32] 29 (0, 0))) := ⟨c18_3⟩
            have n6_ : Aside0 (((w36.setCell ⟨gb407, 0, none⟩ (.int .i64 t402)).setCell ⟨gb407, 1, none⟩ (.slice Ao38 t403.length co38)).heap[gb407]? = some (.cells #[.int .i64 t402, .slice Ao38 t403.length co38] 29 (0, 0))) := ⟨c18_0⟩
            have n7_ : Aside0 (Below w.heap.size w ((w36.setCell ⟨gb407, 0, none⟩ (.int .i64 t402)).setCell ⟨gb407, 1, none⟩ (.slice Ao38 t403.length co38))) := ⟨G.cB HB.out⟩
            (try clear HO_6)
            (try clear HO_9)
            (try clear HO_395001)
            (try clear HO405)
            (try clear BK382)
            (try clear BK394)
            (try clear BK407)
            (try clear HB)
            generalize ((w36.setCell ⟨gb407, 0, none⟩ (.int .i64 t402)).setCell ⟨gb407, 1, none⟩ (.slice Ao38 t403.length co38)) = w40 at n0_ n1_ n2_ n3_ n4_ n5_ n6_ n7_ ⊢
            revert n0_ n1_ n2_ n3_ n4_ n5_ n6_ n7_
            intro HO_6 HO_9 HO_395001 HO405 BK382 BK394 BK407 HB
            have n0_ := Aside0.mk (Kd.R_drew HO_6.out)
            have n1_ := Aside0.mk (Kd.R_drew HO_9.out)
            have n2_ := Aside0.mk (Kd.R_drew HO_395001.out)
            have n3_ := Aside0.mk (Kd.R_drew HO405.out)
            have n4_ := Aside0.mk (blk_drew BK382.out)
            have n5_ := Aside0.mk (blk_drew BK394.out)
            have n6_ := Aside0.mk (blk_drew BK407.out)
            have n7_ := Aside0.mk (below_drew1 HB.out)
            clear HO_6 HO_9 HO_395001 HO405 BK382 BK394 BK407 HB
            revert n0_ n1_ n2_ n3_ n4_ n5_ n6_ n7_
            intro HO_6 HO_9 HO_395001 HO405 BK382 BK394 BK407 HB
            have p408 : 0 ≤ (x10_2 : Int) := of_decide_eq_true (G.asm)
            have q408 : x10_2 < (t395.length : Int) := of_decide_eq_true (G.asm)
            obtain ⟨ad408, e408, hx408_0⟩ := Kd.at_int (Kd.R_reads' HO_9.out).2.2 x10_2 p408 q408
            obtain rfl : ad401 = ad408 := (by injection e408)
            replace p408 := eq_true p408
            replace q408 := eq_true q408
            refine start_ (n := 6) (S := fun w' => w'.cell? ⟨gb407, 0, none⟩ = some (.int .i64 t402) ∧ w'.cell? ⟨gb407, 1, none⟩ = some (.slice Ao38 t403.length co38) ∧ w'.cell? (ad401.add (x10_2).toNat) = some (.int .i64 (rd t395 x10_2))) (ds := []) (G.fl 6 0) (c18_16) rfl (c18_16) ⟨(blk_cell BK407.out 0).trans rfl, (blk_cell BK407.out 1).trans rfl, hx408_0⟩ (fun hHeld => ?_)
            generalize w40.drew = w41 at HO_6 HO_9 HO_395001 HO405 BK382 BK394 BK407 HB hx408_0 hHeld ⊢
            refine G.pu 1 (some 50) (G.fl 6 2) ?_
            refine G.pu 2 (some 51) (G.fl 6 6) ?_
            refine G.pu 3 (some 52) (G.fl 6 14) ?_
            refine G.ta3 0 (some 49) (G.fl 6 15) ?_
            refine G.ta3 4 (some 53) (G.fl 6 31) ?_
            refine one_ (i := 5) (N := some 54) (G.fl 6 63) rfl rfl (c18_16) (c18_17) (fun K hK => ?_)
            refine goes_ Try.func15 (c18_16) rfl #[.agg #[.int .i64 t402, .slice Ao38 t403.length co38], .int .i64 (rd t395 x10_2)] (by rfl) rfl rfl (G.ar) ?_
            with_reducible refine (spec_TrailCan.calls k2 t402 _ _ t403 (rd t395 x10_2) true _ ?side1 ?side2 A28.out).mono ?_
            (case side1 => repeat (first | exact (Kd.R_reads' HO405.out).2.2 | (with_reducible refine Kd.C_alloc ?_ _) | (with_reducible refine Kd.C_drewN ?_ _) | (with_reducible refine Kd.C_drew ?_)))
            (case side2 => exact (Kd.R_reads' HO405.out).2.1)
            rintro e w42 ⟨rfl, hb⟩
            have HS2_ := (hb.cell (World.block_lt_of_cell? _ _ (hHeld.2.2))).trans (hHeld.2.2)
            refine ⟨_, rfl, ?_⟩
            have n0_ := Aside0.mk (Kd.R_below (G.cR HO_6.out) hb)
            have n1_ := Aside0.mk (Kd.R_below (G.cR HO_9.out) hb)
            have n2_ := Aside0.mk (Kd.R_below (G.cR HO_395001.out) hb)
            have n3_ := Aside0.mk (Kd.R_below (G.cR HO405.out) hb)
            have n4_ := Aside0.mk (blk_below (g := gb382) (o := .cells #[.int .i64 a0_0, .slice A0_1 l0_1.length c0_1] 29 (0, 0)) (G.cb BK382.out) hb)
            have n5_ := Aside0.mk (blk_below (g := gb394) (o := .cells #[.int .i64 x395000_2, .slice Ao32 x395001_2.length co32] 29 (0, 0)) (G.cb BK394.out) hb)
            have n6_ := Aside0.mk (blk_below (g := gb407) (o := .cells #[.int .i64 t402, .slice Ao38 t403.length co38] 29 (0, 0)) (G.cb BK407.out) hb)
            have n7_ := Aside0.mk (below_step (G.cB HB.out) hb)
            clear HO_6 HO_9 HO_395001 HO405 BK382 BK394 BK407 HB
            revert n0_ n1_ n2_ n3_ n4_ n5_ n6_ n7_
            intro HO_6 HO_9 HO_395001 HO405 BK382 BK394 BK407 HB
            (try clear hb)
            (try clear hb2)
            (try clear hk)
            (try clear hi)
            refine hK.out _ _ ⟨(blk_cell BK407.out 0).trans rfl, (blk_cell BK407.out 1).trans rfl, HS2_⟩ (fun hHeld => ?_)
            clear hK K
            refine G.no (some 54) ?_
            refine done_ (c18_16) ?_
            have hnb43 := NB407_382.out
            have hnc43 := NB382_407.out
            have hnb44 := NB407_394.out
            have hnc44 := NB394_407.out
            have hcz45_0 : w42.cell? ⟨gb407, 0, none⟩ = some (.int .i64 t402) := (blk_cell BK407.out 0).trans rfl
            have hcz45_1 : w42.cell? ⟨gb407, 1, none⟩ = some (.slice Ao38 t403.length co38) := (blk_cell BK407.out 1).trans rfl
            have hfz45_0 := blk_frozen BK407.out 0
            have hfz45_1 := blk_frozen BK407.out 1
            have hnb46 := NB394_382.out
            have hnc46 := NB382_394.out
            have hcz47_0 : w42.cell? ⟨gb394, 0, none⟩ = some (.int .i64 x395000_2) := (blk_cell BK394.out 0).trans rfl
            have hcz47_1 : w42.cell? ⟨gb394, 1, none⟩ = some (.slice Ao32 x395001_2.length co32) := (blk_cell BK394.out 1).trans rfl
            have hfz47_0 := blk_frozen BK394.out 0
            have hfz47_1 := blk_frozen BK394.out 1
            have p410 : 0 ≤ (x10_2 : Int) := of_decide_eq_true (G.asm)
            have q410 : x10_2 < (t395.length : Int) := of_decide_eq_true (G.asm)
            obtain ⟨ad410, e410, hx410_0⟩ := Kd.at_int (Kd.R_reads' HO_9.out).2.2 x10_2 p410 q410
            obtain rfl : ad401 = ad410 := (by injection e410)
            have hn410_0 : ad401.block ≠ gb394 := Kd.own_blk (Kd.R_ne HO_9.out BK394.out (c18_17))
            have hn410_1 : ad401.block ≠ gb394 := Kd.own_blk (Kd.R_ne HO_9.out BK394.out (c18_17))
            replace hx410_0 := (cell_far (p := ⟨gb394, 0, none⟩) (by first | (rw [add_block]; exact hn410_0) | (show (Addr.add _ _).block ≠ _; rw [add_block]; exact hn410_0) | exact hn410_0) (.int .i64 t402)).trans hx410_0
            replace hx410_0 := (cell_far (p := ⟨gb394, 1, none⟩) (by first | (rw [add_block]; exact hn410_1) | (show (Addr.add _ _).block ≠ _; rw [add_block]; exact hn410_1) | exact hn410_1) (.slice Ao38 t403.length co38)).trans hx410_0
            clear hn410_0 hn410_1
            replace p410 := eq_true p410
            replace q410 := eq_true q410
            try go_wp2_with (first | ((with_reducible refine gate_builtin (b := .append) (xs := #[.tmp 60, .tmp 62]) rfl ?_); at_builtin; refine Kd.R_append (Kd.int .i64) (w0 := w) w.heap.size rfl (.tmp 60) (.tmp 62) 33 3 (.int .i64 0) 8 rfl Try.underlying33 info3 rfl (c18_17) (by omega) u6 x6_1 (rd t395 x10_2) [.int .i64 (rd t395 x10_2)] (fun k_ => some k_ ≠ (.slice (some ad401) t395.length co31 : Value).ownBlock) (fun _ => False) rfl (by first | (go_simp; done) | (go_simp; rfl)) ?aP (fun _ hk => hk.elim) ?aF ?aO ?aB ?aS ?aL ?_; (case aP => exact rfl); (case aB => exact (G.cB HB.out)); (case aF => exact (fun k_ hk => Kd.fresh' (Kd.R_lt (by (with_reducible repeat (first | apply Kd.R_alloc | apply Kd.R_drewN | apply Kd.R_drew)); exact (Kd.R_mono (Kd.R_far (p := ⟨gb394, 1, none⟩) (Kd.R_far (p := ⟨gb394, 0, none⟩) (Kd.R_types HO_9.out BK394.out (c18_17)) (fun _ hk => hk.2) (.int .i64 t402)) (fun _ hk => hk.2) (.slice Ao38 t403.length co38)) (fun _ h_ => h_.1)))) k_ hk)); (case aO => exact (by (with_reducible repeat (first | apply Kd.R_alloc | apply Kd.R_drewN | apply Kd.R_drew)); exact Kd.R_mono (Kd.R_far (p := ⟨gb394, 1, none⟩) (Kd.R_far (p := ⟨gb394, 0, none⟩) (Kd.R_types HO_6.out BK394.out (c18_17)) (fun _ hk => hk.2) (.int .i64 t402)) (fun _ hk => hk.2) (.slice Ao38 t403.length co38)) (fun _ hk => hk.1))); (case aS => exact (below_size (G.cB HB.out))); (case aL => have := LMc30.out; omega); intro v412 w48 ho hb hg hat; rw [← Ny411.out] at ho; have n0_ := Aside0.mk (Kd.R_after (ok := (fun _ => True)) (by (with_reducible repeat (first | apply Kd.R_alloc | apply Kd.R_drewN | apply Kd.R_drew)); exact Kd.R_mono (Kd.R_far (p := ⟨gb394, 1, none⟩) (Kd.R_far (p := ⟨gb394, 0, none⟩) (Kd.R_types HO_9.out BK394.out (c18_17)) (fun _ hk => hk.2) (.int .i64 t402)) (fun _ hk => hk.2) (.slice Ao38 t403.length co38)) (fun _ hk => ⟨trivial, hk.1⟩)) hg hat); have n1_ := Aside0.mk (Kd.R_over' (by (with_reducible repeat (first | apply Kd.R_alloc | apply Kd.R_drewN | apply Kd.R_drew)); exact (Kd.R_mono (Kd.R_far (p := ⟨gb394, 1, none⟩) (Kd.R_far (p := ⟨gb394, 0, none⟩) (Kd.R_types HO_395001.out BK394.out (c18_17)) (fun _ hk => hk.2) (.int .i64 t402)) (fun _ hk => hk.2) (.slice Ao38 t403.length co38)) (fun _ h_ => h_.1))) (Kd.R_typed (c18_5)) (c18_17) hg); have n2_ := Aside0.mk (blk_grown (g := gb382) (o := .cells #[.int .i64 a0_0, .slice A0_1 l0_1.length c0_1] 29 (0, 0)) (c18_1) hg (Kd.R_ne HO_6.out BK382.out (c18_17))); have n3_ := Aside0.mk (blk_grown (g := gb394) (o := .cells #[.int .i64 t402, .slice Ao38 t403.length co38] 29 (0, 0)) (by (with_reducible repeat (first | refine blk_drewN ?_ _ | refine blk_drew ?_ | refine blk_alloc ?_ _)); refine blk_put (cs := #[.int .i64 t402, .slice Ao32 x395001_2.length co32]) ?_ 1 _ rfl; (with_reducible repeat (first | refine blk_drewN ?_ _ | refine blk_drew ?_ | refine blk_alloc ?_ _)); refine blk_put (cs := #[.int .i64 x395000_2, .slice Ao32 x395001_2.length co32]) ?_ 0 _ rfl; (with_reducible repeat (first | refine blk_drewN ?_ _ | refine blk_drew ?_ | refine blk_alloc ?_ _)); exact BK394.out) hg (Kd.R_ne HO_6.out BK394.out (c18_17))); have n4_ := Aside0.mk (Kd.R_over' (by (with_reducible repeat (first | apply Kd.R_alloc | apply Kd.R_drewN | apply Kd.R_drew)); exact (Kd.R_mono (Kd.R_far (p := ⟨gb394, 1, none⟩) (Kd.R_far (p := ⟨gb394, 0, none⟩) (Kd.R_types HO405.out BK394.out (c18_17)) (fun _ hk => hk.2) (.int .i64 t402)) (fun _ hk => hk.2) (.slice Ao38 t403.length co38)) (fun _ h_ => h_.1))) (Kd.R_typed (c18_5)) (c18_17) hg); have n5_ := Aside0.mk (blk_grown (g := gb407) (o := .cells #[.int .i64 t402, .slice Ao38 t403.length co38] 29 (0, 0)) (by (with_reducible repeat (first | refine blk_drewN ?_ _ | refine blk_drew ?_ | refine blk_alloc ?_ _)); refine blk_far ?_ NB407_394.out _; (with_reducible repeat (first | refine blk_drewN ?_ _ | refine blk_drew ?_ | refine blk_alloc ?_ _)); refine blk_far ?_ NB407_394.out _; (with_reducible repeat (first | refine blk_drewN ?_ _ | refine blk_drew ?_ | refine blk_alloc ?_ _)); exact BK407.out) hg (Kd.R_ne HO_6.out BK407.out (c18_17))); have n6_ := Aside0.mk (hb); have n7_ := Aside0.mk (ho); clear HO_9 HO_395001 BK382 BK394 HO405 BK407 HB HO_6; revert n0_ n1_ n2_ n3_ n4_ n5_ n6_ n7_; intro HO_9 HO_395001 BK382 BK394 HO405 BK407 HB HO413; clear ho hb hg hat))
            go_roundg k2
            case measure => have := HK1.out; have := HK2.out; omega
            case rel => exact ⟨(y411), (rd t395 x10_2), (t402), (t403), (.slice Ao38 t403.length co38), (c18_14), H', ⟨by have := HK1.out; have := HK2.out; omega⟩, ⟨by (with_reducible repeat (first | apply Kd.R_alloc | apply Kd.R_drewN | apply Kd.R_drew)); exact Kd.R_mono HO413.out (fun _ hk => trivial)⟩, ⟨by (with_reducible repeat (first | apply Kd.R_alloc | apply Kd.R_drewN | apply Kd.R_drew)); exact Kd.R_mono HO405.out (fun _ hk => trivial)⟩, ⟨G.cb BK382.out⟩, ⟨G.cb BK394.out⟩, ⟨G.cB HB.out⟩⟩
           ·rw [if_neg c30] at H
            exact absurd H (by simp)
          ·replace c29 := Bool.eq_false_iff.mpr c29
           subst c29
           have H1 : (spec_TrailOf.l1 k2 x6_1 x8_2 t395 (wrap64 (x10_2 + 1)) x395000_2 x395001_2) = some (r1, r2) := by rw [if_neg (show ¬ (false = true) by decide)] at H; exact H
           clear H
           have H := H1
           clear H1
           have H' := Aside0.mk H
           clear H
           obtain ⟨Ao49, co49, eo49⟩ := Kd.R_slice HO_9.out
           subst eo49
           obtain ⟨Ao50, co50, eo50⟩ := Kd.R_slice HO_395001.out
           subst eo50
           try go_wp2
           have n0_ := Aside0.mk (Kd.R_drew HO_6.out)
           have n1_ := Aside0.mk (Kd.R_drew HO_9.out)
           have n2_ := Aside0.mk (Kd.R_drew HO_395001.out)
           have n3_ := Aside0.mk (blk_drew BK382.out)
           have n4_ := Aside0.mk (blk_drew BK394.out)
           have n5_ := Aside0.mk (below_drew1 HB.out)
           clear HO_6 HO_9 HO_395001 BK382 BK394 HB
           revert n0_ n1_ n2_ n3_ n4_ n5_
           intro HO_6 HO_9 HO_395001 BK382 BK394 HB
           have p401 : 0 ≤ (x10_2 : Int) := of_decide_eq_true (G.asm)
           have q401 : x10_2 < (t395.length : Int) := of_decide_eq_true (G.asm)
           obtain ⟨ad401, e401, hx401_0⟩ := Kd.at_int (Kd.R_reads' HO_9.out).2.2 x10_2 p401 q401
           cases e401
           replace p401 := eq_true p401
           replace q401 := eq_true q401
           refine start_ (n := 13) (S := fun w' => w'.cell? ⟨gb394, 0, none⟩ = some (.int .i64 x395000_2) ∧ w'.cell? ⟨gb394, 1, none⟩ = some (.slice Ao50 x395001_2.length co50) ∧ w'.cell? (ad401.add (x10_2).toNat) = some (.int .i64 (rd t395 x10_2))) (ds := []) (G.fl 13 0) (c18_16) rfl (c18_16) ⟨(blk_cell BK394.out 0).trans rfl, (blk_cell BK394.out 1).trans rfl, hx401_0⟩ (fun hHeld => ?_); refine with_tabW spec_TrailOf.tab12 spec_TrailOf.bits12 (fun HT_ HW_ => ?_)
           generalize wr.drew = w51 at HO_6 HO_9 HO_395001 BK382 BK394 HB hx401_0 hHeld ⊢
           refine G.pu 1 (some 41) (G.fl 13 2) ?_
           refine G.pu 2 (some 42) (G.fl 13 6) ?_
           refine G.pu 3 (some 43) (G.fl 13 14) ?_
           refine G.pu 4 (some 44) (G.fl 13 30) ?_
           refine G.ta3 0 (some 40) (G.fl 13 31) ?_
           refine G.ta3 5 (some 45) (G.fl 13 63) ?_
           refine join_ (σ := Value × Nat) 2 #[true, true, true, true, true, true, true, true, true, true, true, false, false] (fun s_ => [(46, .tuple #[.agg #[.int .i64 t402, s_.1], .bool t406]), (11, .pointer (some ⟨s_.2, 0, none⟩)), (39, .tuple #[.agg #[.int .i64 t402, s_.1], .bool t406]), (47, .agg #[.int .i64 t402, s_.1]), (48, .bool t406)]) (fun s_ w' => (w'.cell? ⟨gb394, 0, none⟩ = some (.int .i64 x395000_2) ∧ w'.cell? ⟨gb394, 1, none⟩ = some (.slice Ao50 x395001_2.length co50) ∧ w'.cell? (ad401.add (x10_2).toNat) = some (.int .i64 (rd t395 x10_2))) ∧ (Kd.R k63 63 w' w.heap.size (fun k_ => some k_ ≠ (.slice Ao50 x395001_2.length co50 : Value).ownBlock) s_.1 t403) ∧ (Kd.R k63 63 w' w.heap.size (fun k_ => some k_ ≠ (s_.1 : Value).ownBlock) (.slice Ao50 x395001_2.length co50) x395001_2) ∧ (Kd.R (Kd.int .i64) 3 w' w.heap.size (fun k_ => some k_ ≠ (.slice (some ad401) t395.length co49 : Value).ownBlock) u6 x6_1) ∧ (Kd.R (Kd.int .i64) 3 w' w.heap.size (fun k_ => some k_ ≠ (u6 : Value).ownBlock) (.slice (some ad401) t395.length co49) t395) ∧ (w'.heap[gb382]? = some (.cells #[.int .i64 a0_0, .slice A0_1 l0_1.length c0_1] 29 (0, 0))) ∧ (w'.heap[gb394]? = some (.cells #[.int .i64 x395000_2, .slice Ao50 x395001_2.length co50] 29 (0, 0))) ∧ (w'.heap[s_.2]? = some (.cells #[.int .i64 0, .slice none 0 0] 29 (0, 0))) ∧ (w.heap.size ≤ s_.2) ∧ (w.heap.size ≤ s_.2) ∧ (gb382 ≠ s_.2) ∧ (s_.2 ≠ gb382) ∧ (gb394 ≠ s_.2) ∧ (s_.2 ≠ gb394) ∧ (Below w.heap.size w w')) ?_ ?_
           rotate_left
           ·intro hCont
            refine two_ (i := 6) (j := 10) (Ni := some 46) (Nj := some 11) #[true, true, true, true, true, true, true, false, false, false, false, false, false] #[true, true, true, true, true, true, false, false, false, false, true, false, false] rfl rfl rfl rfl (two_of HT_.out (c18_16)) (c18_17) (c18_17) (fun K hK => ?_) (fun K hK => ?_)
            ·skip
             refine goes_ Try.func48 (c18_16) rfl #[.agg #[.int .i64 x395000_2, .slice Ao50 x395001_2.length co50], .int .i64 x8_2, .int .i64 (rd t395 x10_2)] (by rfl) rfl rfl (G.ar) ?_
             with_reducible refine (spec_NetCut.calls k2 x395000_2 _ _ x395001_2 x8_2 (rd t395 x10_2) t402 t403 t406 _ ?side1 ?side2 A27.out).mono ?_
             (case side1 => repeat (first | exact (Kd.R_reads' HO_395001.out).2.2 | (with_reducible refine Kd.C_alloc ?_ _) | (with_reducible refine Kd.C_drewN ?_ _) | (with_reducible refine Kd.C_drew ?_)))
             (case side2 => exact (Kd.R_reads' HO_395001.out).2.1)
             rintro e w52 ⟨v404, rfl, ho0, hb⟩
             have HS2_ := (hb.cell (World.block_lt_of_cell? _ _ (hHeld.2.2))).trans (hHeld.2.2)
             refine ⟨_, rfl, ?_⟩
             have n0_ := Aside0.mk (Kd.R_below (G.cR HO_6.out) hb)
             have n1_ := Aside0.mk (Kd.R_below (G.cR HO_9.out) hb)
             have n2_ := Aside0.mk (Kd.R_elder' (G.cR HO_395001.out) (Kd.R_base ho0) hb)
             have n3_ := Aside0.mk (Kd.R_lower (Kd.R_new' ho0 (Kd.R_lt (G.cR HO_395001.out))) (below_size (G.cB HB.out)))
             have n4_ := Aside0.mk (blk_below (g := gb382) (o := .cells #[.int .i64 a0_0, .slice A0_1 l0_1.length c0_1] 29 (0, 0)) (G.cb BK382.out) hb)
             have n5_ := Aside0.mk (blk_below (g := gb394) (o := .cells #[.int .i64 x395000_2, .slice Ao50 x395001_2.length co50] 29 (0, 0)) (G.cb BK394.out) hb)
             have n6_ := Aside0.mk (below_step (G.cB HB.out) hb)
             clear HO_6 HO_9 HO_395001 BK382 BK394 HB
             revert n0_ n1_ n2_ n3_ n4_ n5_ n6_
             intro HO_6 HO_9 HO_395001 HO405 BK382 BK394 HB
             (try clear hb)
             (try clear hb2)
             (try clear hk)
             (try clear hi)
             (try clear ho0)
             refine hK.out _ _ ⟨(blk_cell BK394.out 0).trans rfl, (blk_cell BK394.out 1).trans rfl, HS2_⟩ (fun hHeld => ?_)
             clear hK K
             refine G.no (some 46) ?_
             refine G.pu 7 (some 39) (G.fl 13 255) ?_
             refine G.pu 8 (some 47) (G.fl 13 511) ?_
             refine G.pu 9 (some 48) (G.fl 13 1023) ?_
             refine one_ (i := 10) (N := some 11) (G.fl 13 2047) rfl rfl (one_of HT_.out (c18_16)) (c18_17) (fun K hK => ?_)
             refine box_step ?hg (N := 11) ?hd (cs := #[.int .i64 0, .slice none 0 0]) (t := 29) ?hr ?_; (case hd => rfl); (case hg => rfl); (case hr => first | (go_simp; done) | (go_simp; rfl))
             intro gb407 hg w53 hbox hb
             have HS2_ := (hb.cell (World.block_lt_of_cell? _ _ (hHeld.2.2))).trans (hHeld.2.2)
             have n0_ := Aside0.mk (Kd.R_below (G.cR HO_6.out) hb)
             have n1_ := Aside0.mk (Kd.R_below (G.cR HO_9.out) hb)
             have n2_ := Aside0.mk (Kd.R_below (G.cR HO_395001.out) hb)
             have n3_ := Aside0.mk (Kd.R_below (G.cR HO405.out) hb)
             have n4_ := Aside0.mk (blk_below (g := gb382) (o := .cells #[.int .i64 a0_0, .slice A0_1 l0_1.length c0_1] 29 (0, 0)) (G.cb BK382.out) hb)
             have n5_ := Aside0.mk (blk_below (g := gb394) (o := .cells #[.int .i64 x395000_2, .slice Ao50 x395001_2.length co50] 29 (0, 0)) (G.cb BK394.out) hb)
             have n6_ := Aside0.mk (below_step (G.cB HB.out) hb)
             have n7_ := Aside0.mk (hbox)
             have n8_ := Aside0.mk ((c18_15 : w.heap.size ≤ gb407))
             have n9_ := Aside0.mk ((c18_15 : w.heap.size ≤ gb407))
             have n10_ := Aside0.mk ((c18_10 : gb382 ≠ gb407))
             have n11_ := Aside0.mk ((c18_11 : gb407 ≠ gb382))
             have n12_ := Aside0.mk ((c18_8 : gb394 ≠ gb407))
             have n13_ := Aside0.mk ((c18_9 : gb407 ≠ gb394))
             clear HO_6 HO_9 HO_395001 HO405 BK382 BK394 HB
             revert n0_ n1_ n2_ n3_ n4_ n5_ n6_ n7_ n8_ n9_ n10_ n11_ n12_ n13_
             intro HO_6 HO_9 HO_395001 HO405 BK382 BK394 HB BK407 GW407 GE407 NB382_407 NB407_382 NB394_407 NB407_394
             clear hb hbox hg
             refine hK.out _ _ ⟨(blk_cell BK394.out 0).trans rfl, (blk_cell BK394.out 1).trans rfl, HS2_⟩ (fun hHeld => ?_)
             clear hK K
             refine G.no (some 11) ?_
             exact norm_ (by simp only [putAll, Act.put, List.setIfInBounds_toArray, List.set_cons_zero, List.set_cons_succ]) (hCont (v404, gb407) _ ⟨hHeld, (c18_13), (c18_12), (G.cR HO_6.out), (G.cR HO_9.out), (G.cb BK382.out), (G.cb BK394.out), (G.cb BK407.out), GW407.out, GE407.out, NB382_407.out, NB407_382.out, NB394_407.out, NB407_394.out, (G.cB HB.out)⟩)
            ·skip
             refine box_step ?hg (N := 11) ?hd (cs := #[.int .i64 0, .slice none 0 0]) (t := 29) ?hr ?_; (case hd => rfl); (case hg => rfl); (case hr => first | (go_simp; done) | (go_simp; rfl))
             intro gb407 hg w52 hbox hb
             have HS2_ := (hb.cell (World.block_lt_of_cell? _ _ (hHeld.2.2))).trans (hHeld.2.2)
             have n0_ := Aside0.mk (Kd.R_below (G.cR HO_6.out) hb)
             have n1_ := Aside0.mk (Kd.R_below (G.cR HO_9.out) hb)
             have n2_ := Aside0.mk (Kd.R_below (G.cR HO_395001.out) hb)
             have n3_ := Aside0.mk (blk_below (g := gb382) (o := .cells #[.int .i64 a0_0, .slice A0_1 l0_1.length c0_1] 29 (0, 0)) (G.cb BK382.out) hb)
             have n4_ := Aside0.mk (blk_below (g := gb394) (o := .cells #[.int .i64 x395000_2, .slice Ao50 x395001_2.length co50] 29 (0, 0)) (G.cb BK394.out) hb)
             have n5_ := Aside0.mk (below_step (G.cB HB.out) hb)
             have n6_ := Aside0.mk (hbox)
             have n7_ := Aside0.mk ((c18_15 : w.heap.size ≤ gb407))
             have n8_ := Aside0.mk ((c18_15 : w.heap.size ≤ gb407))
             have n9_ := Aside0.mk ((c18_10 : gb382 ≠ gb407))
             have n10_ := Aside0.mk ((c18_11 : gb407 ≠ gb382))
             have n11_ := Aside0.mk ((c18_8 : gb394 ≠ gb407))
             have n12_ := Aside0.mk ((c18_9 : gb407 ≠ gb394))
             clear HO_6 HO_9 HO_395001 BK382 BK394 HB
             revert n0_ n1_ n2_ n3_ n4_ n5_ n6_ n7_ n8_ n9_ n10_ n11_ n12_
             intro HO_6 HO_9 HO_395001 BK382 BK394 HB BK407 GW407 GE407 NB382_407 NB407_382 NB394_407 NB407_394
             clear hb hbox hg
             refine hK.out _ _ ⟨(blk_cell BK394.out 0).trans rfl, (blk_cell BK394.out 1).trans rfl, HS2_⟩ (fun hHeld => ?_)
             clear hK K
             refine G.no (some 11) ?_
             refine one_ (i := 6) (N := some 46) (G.fl 13 1151) rfl rfl (one_of HT_.out (c18_16)) (c18_17) (fun K hK => ?_)
             refine goes_ Try.func48 (c18_16) rfl #[.agg #[.int .i64 x395000_2, .slice Ao50 x395001_2.length co50], .int .i64 x8_2, .int .i64 (rd t395 x10_2)] (by rfl) rfl rfl (G.ar) ?_
             with_reducible refine (spec_NetCut.calls k2 x395000_2 _ _ x395001_2 x8_2 (rd t395 x10_2) t402 t403 t406 _ ?side1 ?side2 A27.out).mono ?_
             (case side1 => repeat (first | exact (Kd.R_reads' HO_395001.out).2.2 | (with_reducible refine Kd.C_alloc ?_ _) | (with_reducible refine Kd.C_drewN ?_ _) | (with_reducible refine Kd.C_drew ?_)))
             (case side2 => exact (Kd.R_reads' HO_395001.out).2.1)
             rintro e w53 ⟨v404, rfl, ho0, hb⟩
             have HS2_ := (hb.cell (World.block_lt_of_cell? _ _ (hHeld.2.2))).trans (hHeld.2.2)
             refine ⟨_, rfl, ?_⟩
             have n0_ := Aside0.mk (Kd.R_below (G.cR HO_6.out) hb)
             have n1_ := Aside0.mk (Kd.R_below (G.cR HO_9.out) hb)
             have n2_ := Aside0.mk (Kd.R_elder' (G.cR HO_395001.out) (Kd.R_base ho0) hb)
             have n3_ := Aside0.mk (Kd.R_lower (Kd.R_new' ho0 (Kd.R_lt (G.cR HO_395001.out))) (below_size (G.cB HB.out)))
             have n4_ := Aside0.mk (blk_below (g := gb382) (o := .cells #[.int .i64 a0_0, .slice A0_1 l0_1.length c0_1] 29 (0, 0)) (G.cb BK382.out) hb)
             have n5_ := Aside0.mk (blk_below (g := gb394) (o := .cells #[.int .i64 x395000_2, .slice Ao50 x395001_2.length co50] 29 (0, 0)) (G.cb BK394.out) hb)
             have n6_ := Aside0.mk (blk_below (g := gb407) (o := .cells #[.int .i64 0, .slice none 0 0] 29 (0, 0)) (G.cb BK407.out) hb)
             have n7_ := Aside0.mk (below_step (G.cB HB.out) hb)
             clear HO_6 HO_9 HO_395001 BK382 BK394 BK407 HB
             revert n0_ n1_ n2_ n3_ n4_ n5_ n6_ n7_
             intro HO_6 HO_9 HO_395001 HO405 BK382 BK394 BK407 HB
             (try clear hb)
             (try clear hb2)
             (try clear hk)
             (try clear hi)
             (try clear ho0)
             refine hK.out _ _ ⟨(blk_cell BK394.out 0).trans rfl, (blk_cell BK394.out 1).trans rfl, HS2_⟩ (fun hHeld => ?_)
             clear hK K
             refine G.no (some 46) ?_
             refine G.pu 7 (some 39) (G.fl 13 1279) ?_
             refine G.pu 8 (some 47) (G.fl 13 1535) ?_
             refine G.pu 9 (some 48) (G.fl 13 2047) ?_
             exact norm_ (by simp only [putAll, Act.put, List.setIfInBounds_toArray, List.set_cons_zero, List.set_cons_succ]) (hCont (v404, gb407) _ ⟨hHeld, (c18_13), (c18_12), (G.cR HO_6.out), (G.cR HO_9.out), (G.cb BK382.out), (G.cb BK394.out), (G.cb BK407.out), GW407.out, GE407.out, NB382_407.out, NB407_382.out, NB394_407.out, NB407_394.out, (G.cB HB.out)⟩)
           rintro ⟨v404, gb407⟩ w54 ⟨hS_, h0_, h1_, h2_, h3_, h4_, h5_, h6_, h7_, h8_, h9_, h10_, h11_, h12_, h13_⟩
           have n0_ : Aside0 (Kd.R k63 63 w54 w.heap.size (fun k_ => some k_ ≠ (.slice Ao50 x395001_2.length co50 : Value).ownBlock) v404 t403) := ⟨h0_⟩
           have n1_ : Aside0 (Kd.R k63 63 w54 w.heap.size (fun k_ => some k_ ≠ (v404 : Value).ownBlock) (.slice Ao50 x395001_2.length co50) x395001_2) := ⟨h1_⟩
           have n2_ : Aside0 (Kd.R (Kd.int .i64) 3 w54 w.heap.size (fun k_ => some k_ ≠ (.slice (some ad401) t395.length co49 : Value).ownBlock) u6 x6_1) := ⟨h2_⟩
           have n3_ : Aside0 (Kd.R (Kd.int .i64) 3 w54 w.heap.size (fun k_ => some k_ ≠ (u6 : Value).ownBlock) (.slice (some ad401) t395.length co49) t395) := ⟨h3_⟩
           have n4_ : Aside0 (w54.heap[gb382]? = some (.cells #[.int .i64 a0_0, .slice A0_1 l0_1.length c0_1] 29 (0, 0))) := ⟨h4_⟩
           have n5_ : Aside0 (w54.heap[gb394]? = some (.cells #[.int .i64 x395000_2, .slice Ao50 x395001_2.length co50] 29 (0, 0))) := ⟨h5_⟩
           have n6_ : Aside0 (w54.heap[gb407]? = some (.cells #[.int .i64 0, .slice none 0 0] 29 (0, 0))) := ⟨h6_⟩
           have n7_ : Aside0 (w.heap.size ≤ gb407) := ⟨h7_⟩
           have n8_ : Aside0 (w.heap.size ≤ gb407) := ⟨h8_⟩
           have n9_ : Aside0 (gb382 ≠ gb407) := ⟨h9_⟩
           have n10_ : Aside0 (gb407 ≠ gb382) := ⟨h10_⟩
           have n11_ : Aside0 (gb394 ≠ gb407) := ⟨h11_⟩
           have n12_ : Aside0 (gb407 ≠ gb394) := ⟨h12_⟩
           have n13_ : Aside0 (Below w.heap.size w w54) := ⟨h13_⟩
           clear HO_6 HO_9 HO_395001 BK382 BK394 HB
           clear h0_ h1_ h2_ h3_ h4_ h5_ h6_ h7_ h8_ h9_ h10_ h11_ h12_ h13_
           revert n0_ n1_ n2_ n3_ n4_ n5_ n6_ n7_ n8_ n9_ n10_ n11_ n12_ n13_
           intro HO405 HO_395001 HO_6 HO_9 BK382 BK394 BK407 GW407 GE407 NB382_407 NB407_382 NB394_407 NB407_394 HB
           have hHeld : w54.cell? ⟨gb394, 0, none⟩ = some (.int .i64 x395000_2) ∧ w54.cell? ⟨gb394, 1, none⟩ = some (.slice Ao50 x395001_2.length co50) ∧ w54.cell? (ad401.add (x10_2).toNat) = some (.int .i64 (rd t395 x10_2)) := hS_
           obtain ⟨Ao56, co56, eo56⟩ := Kd.R_slice HO405.out
           (first | subst eo56 | (injection eo56 with f1_ f2_ f3_; have f4_ := f1_.symm; have f5_ := f3_.symm; clear f1_ f2_ f3_; subst f4_; subst f5_))
           refine norm_ (a' := ?_) ?_ ?_
           rotate_left
           ·simp only [putAll, Act.put, List.setIfInBounds_toArray, List.set_cons_zero, List.set_cons_succ]
            rfl
           refine one_ (i := 11) (N := none) (G.fl 13 4095) rfl rfl (one_of HT_.out (c18_16)) (c18_17) (fun K hK => ?_)
           have hs55 : w54.cell? ⟨gb407, 0, none⟩ = some (.int .i64 0) := (blk_cell BK407.out 0).trans rfl
           have hfs55 := blk_frozen BK407.out 0
           have hns55_0 := NB382_407.out
           have hns55_1 := NB394_407.out
           have hms55_0 := NB407_382.out
           have hms55_1 := NB407_394.out
           have hs57 : w54.cell? ⟨gb407, 1, none⟩ = some (.slice none 0 0) := (blk_cell BK407.out 1).trans rfl
           have hfs57 := blk_frozen BK407.out 1
           have hns57_0 := NB382_407.out
           have hns57_1 := NB394_407.out
           have hms57_0 := NB407_382.out
           have hms57_1 := NB407_394.out
           refine skip_ (w1 := ?_) (by rfl) rfl ?_ ?_
           rotate_left
           ·go_simp
            rfl
           refine hK.out _ _ ⟨((cell_far (p := ⟨gb407, _, none⟩) NB394_407.out _).trans (((cell_far (p := ⟨gb407, _, none⟩) NB394_407.out _).trans (hHeld.1)))), ((cell_far (p := ⟨gb407, _, none⟩) NB394_407.out _).trans (((cell_far (p := ⟨gb407, _, none⟩) NB394_407.out _).trans (hHeld.2.1)))), ((cell_far (p := ⟨gb407, _, none⟩) (c18_4) _).trans (((cell_far (p := ⟨gb407, _, none⟩) (c18_4) _).trans (hHeld.2.2))))⟩ (fun hHeld => ?_)
           clear hK K
           refine G.pu 12 (some 12) (G.fl 13 8191) ?_
           refine done_ (done_of HT_.out (c18_16)) ?_
           try go_wp2
           have n0_ : Aside0 (Kd.R (Kd.int .i64) 3 ((w54.setCell ⟨gb407, 0, none⟩ (.int .i64 t402)).setCell ⟨gb407, 1, none⟩ (.slice Ao56 t403.length co56)) w.heap.size (fun k_ => some k_ ≠ (.slice (some ad401) t395.length co49 : Value).ownBlock) u6 x6_1) := ⟨by (with_reducible repeat (first | apply Kd.R_alloc | apply Kd.R_drewN | apply Kd.R_drew)); exact Kd.R_mono (Kd.R_far (p := ⟨gb407, 1, none⟩) (Kd.R_far (p := ⟨gb407, 0, none⟩) (Kd.R_types HO_6.out BK407.out (c18_17)) (fun _ hk => hk.2) (.int .i64 t402)) (fun _ hk => hk.2) (.slice Ao56 t403.length co56)) (fun _ hk => hk.1)⟩
           have n1_ : Aside0 (Kd.R (Kd.int .i64) 3 ((w54.setCell ⟨gb407, 0, none⟩ (.int .i64 t402)).setCell ⟨gb407, 1, none⟩ (.slice Ao56 t403.length co56)) w.heap.size (fun k_ => some k_ ≠ (u6 : Value).ownBlock) (.slice (some ad401) t395.length co49) t395) := ⟨by (with_reducible repeat (first | apply Kd.R_alloc | apply Kd.R_drewN | apply Kd.R_drew)); exact Kd.R_mono (Kd.R_far (p := ⟨gb407, 1, none⟩) (Kd.R_far (p := ⟨gb407, 0, none⟩) (Kd.R_types HO_9.out BK407.out (c18_17)) (fun _ hk => hk.2) (.int .i64 t402)) (fun _ hk => hk.2) (.slice Ao56 t403.length co56)) (fun _ hk => hk.1)⟩
           have n2_ : Aside0 (Kd.R k63 63 ((w54.setCell ⟨gb407, 0, none⟩ (.int .i64 t402)).setCell ⟨gb407, 1, none⟩ (.slice Ao56 t403.length co56)) w.heap.size (fun k_ => some k_ ≠ (.slice Ao56 t403.length co56 : Value).ownBlock) (.slice Ao50 x395001_2.length co50) x395001_2) := ⟨by (with_reducible repeat (first | apply Kd.R_alloc | apply Kd.R_drewN | apply Kd.R_drew)); exact Kd.R_mono (Kd.R_far (p := ⟨gb407, 1, none⟩) (Kd.R_far (p := ⟨gb407, 0, none⟩) (Kd.R_types HO_395001.out BK407.out (c18_17)) (fun _ hk => hk.2) (.int .i64 t402)) (fun _ hk => hk.2) (.slice Ao56 t403.length co56)) (fun _ hk => hk.1)⟩
           have n3_ : Aside0 (Kd.R k63 63 ((w54.setCell ⟨gb407, 0, none⟩ (.int .i64 t402)).setCell ⟨gb407, 1, none⟩ (.slice Ao56 t403.length co56)) w.heap.size (fun k_ => some k_ ≠ (.slice Ao50 x395001_2.length co50 : Value).ownBlock) (.slice Ao56 t403.length co56) t403) := ⟨by (with_reducible repeat (first | apply Kd.R_alloc | apply Kd.R_drewN | apply Kd.R_drew)); exact Kd.R_mono (Kd.R_far (p := ⟨gb407, 1, none⟩) (Kd.R_far (p := ⟨gb407, 0, none⟩) (Kd.R_types HO405.out BK407.out (c18_17)) (fun _ hk => hk.2) (.int .i64 t402)) (fun _ hk => hk.2) (.slice Ao56 t403.length co56)) (fun _ hk => hk.1)⟩
           have n4_ : Aside0 (((w54.setCell ⟨gb407, 0, none⟩ (.int .i64 t402)).setCell ⟨gb407, 1, none⟩ (.slice Ao56 t403.length co56)).heap[gb382]? = some (.cells #[.int .i64 a0_0, .slice A0_1 l0_1.length c0_1] 29 (0, 0))) := ⟨c18_2⟩
           have n5_ : Aside0 (((w54.setCell ⟨gb407, 0, none⟩ (.int .i64 t402)).setCell ⟨gb407, 1, none⟩ (.slice Ao56 t403.length co56)).heap[gb394]? = some (.cells #[.int .i64 x395000_2, .slice Ao50 x395001_2.length co50] 29 (0, 0))) := ⟨c18_3⟩
           have n6_ : Aside0 (((w54.setCell ⟨gb407, 0, none⟩ (.int .i64 t402)).setCell ⟨gb407, 1, none⟩ (.slice Ao56 t403.length co56)).heap[gb407]? = some (.cells #[.int .i64 t402, .slice Ao56 t403.length co56] 29 (0, 0))) := ⟨c18_0⟩
           have n7_ : Aside0 (Below w.heap.size w ((w54.setCell ⟨gb407, 0, none⟩ (.int .i64 t402)).setCell ⟨gb407, 1, none⟩ (.slice Ao56 t403.length co56))) := ⟨G.cB HB.out⟩
           (try clear HO_6)
           (try clear HO_9)
           (try clear HO_395001)
           (try clear HO405)
           (try clear BK382)
           (try clear BK394)
           (try clear BK407)
           (try clear HB)
           generalize ((w54.setCell ⟨gb407, 0, none⟩ (.int .i64 t402)).setCell ⟨gb407, 1, none⟩ (.slice Ao56 t403.length co56)) = w58 at n0_ n1_ n2_ n3_ n4_ n5_ n6_ n7_ ⊢
           revert n0_ n1_ n2_ n3_ n4_ n5_ n6_ n7_
           intro HO_6 HO_9 HO_395001 HO405 BK382 BK394 BK407 HB
           have n0_ := Aside0.mk (Kd.R_drew HO_6.out)
           have n1_ := Aside0.mk (Kd.R_drew HO_9.out)
           have n2_ := Aside0.mk (Kd.R_drew HO_395001.out)
           have n3_ := Aside0.mk (Kd.R_drew HO405.out)
           have n4_ := Aside0.mk (blk_drew BK382.out)
           have n5_ := Aside0.mk (blk_drew BK394.out)
           have n6_ := Aside0.mk (blk_drew BK407.out)
           have n7_ := Aside0.mk (below_drew1 HB.out)
           clear HO_6 HO_9 HO_395001 HO405 BK382 BK394 BK407 HB
           revert n0_ n1_ n2_ n3_ n4_ n5_ n6_ n7_
           intro HO_6 HO_9 HO_395001 HO405 BK382 BK394 BK407 HB
           have p408 : 0 ≤ (x10_2 : Int) := of_decide_eq_true (G.asm)
           have q408 : x10_2 < (t395.length : Int) := of_decide_eq_true (G.asm)
           obtain ⟨ad408, e408, hx408_0⟩ := Kd.at_int (Kd.R_reads' HO_9.out).2.2 x10_2 p408 q408
           obtain rfl : ad401 = ad408 := (by injection e408)
           replace p408 := eq_true p408
           replace q408 := eq_true q408
           refine start_ (n := 6) (S := fun w' => w'.cell? ⟨gb407, 0, none⟩ = some (.int .i64 t402) ∧ w'.cell? ⟨gb407, 1, none⟩ = some (.slice Ao56 t403.length co56) ∧ w'.cell? (ad401.add (x10_2).toNat) = some (.int .i64 (rd t395 x10_2))) (ds := []) (G.fl 6 0) (c18_16) rfl (c18_16) ⟨(blk_cell BK407.out 0).trans rfl, (blk_cell BK407.out 1).trans rfl, hx408_0⟩ (fun hHeld => ?_)
           generalize w58.drew = w59 at HO_6 HO_9 HO_395001 HO405 BK382 BK394 BK407 HB hx408_0 hHeld ⊢
           refine G.pu 1 (some 50) (G.fl 6 2) ?_
           refine G.pu 2 (some 51) (G.fl 6 6) ?_
           refine G.pu 3 (some 52) (G.fl 6 14) ?_
           refine G.ta3 0 (some 49) (G.fl 6 15) ?_
           refine G.ta3 4 (some 53) (G.fl 6 31) ?_
           refine one_ (i := 5) (N := some 54) (G.fl 6 63) rfl rfl (c18_16) (c18_17) (fun K hK => ?_)
           refine goes_ Try.func15 (c18_16) rfl #[.agg #[.int .i64 t402, .slice Ao56 t403.length co56], .int .i64 (rd t395 x10_2)] (by rfl) rfl rfl (G.ar) ?_
           with_reducible refine (spec_TrailCan.calls k2 t402 _ _ t403 (rd t395 x10_2) false _ ?side1 ?side2 A28.out).mono ?_
           (case side1 => repeat (first | exact (Kd.R_reads' HO405.out).2.2 | (with_reducible refine Kd.C_alloc ?_ _) | (with_reducible refine Kd.C_drewN ?_ _) | (with_reducible refine Kd.C_drew ?_)))
           (case side2 => exact (Kd.R_reads' HO405.out).2.1)
           rintro e w60 ⟨rfl, hb⟩
           have HS2_ := (hb.cell (World.block_lt_of_cell? _ _ (hHeld.2.2))).trans (hHeld.2.2)
           refine ⟨_, rfl, ?_⟩
           have n0_ := Aside0.mk (Kd.R_below (G.cR HO_6.out) hb)
           have n1_ := Aside0.mk (Kd.R_below (G.cR HO_9.out) hb)
           have n2_ := Aside0.mk (Kd.R_below (G.cR HO_395001.out) hb)
           have n3_ := Aside0.mk (Kd.R_below (G.cR HO405.out) hb)
           have n4_ := Aside0.mk (blk_below (g := gb382) (o := .cells #[.int .i64 a0_0, .slice A0_1 l0_1.length c0_1] 29 (0, 0)) (G.cb BK382.out) hb)
           have n5_ := Aside0.mk (blk_below (g := gb394) (o := .cells #[.int .i64 x395000_2, .slice Ao50 x395001_2.length co50] 29 (0, 0)) (G.cb BK394.out) hb)
           have n6_ := Aside0.mk (blk_below (g := gb407) (o := .cells #[.int .i64 t402, .slice Ao56 t403.length co56] 29 (0, 0)) (G.cb BK407.out) hb)
           have n7_ := Aside0.mk (below_step (G.cB HB.out) hb)
           clear HO_6 HO_9 HO_395001 HO405 BK382 BK394 BK407 HB
           revert n0_ n1_ n2_ n3_ n4_ n5_ n6_ n7_
           intro HO_6 HO_9 HO_395001 HO405 BK382 BK394 BK407 HB
           (try clear hb)
           (try clear hb2)
           (try clear hk)
           (try clear hi)
           refine hK.out _ _ ⟨(blk_cell BK407.out 0).trans rfl, (blk_cell BK407.out 1).trans rfl, HS2_⟩ (fun hHeld => ?_)
           clear hK K
           refine G.no (some 54) ?_
           refine done_ (c18_16) ?_
           try go_wp2
           go_roundg k2
           case measure => have := HK1.out; have := HK2.out; omega
           case rel => exact ⟨(x8_2), (wrap64 (x10_2 + 1)), (x395000_2), (x395001_2), (.slice Ao50 x395001_2.length co50), (c18_14), (c18_14), H', ⟨by have := HK1.out; have := HK2.out; omega⟩, ⟨G.cR HO_6.out⟩, ⟨G.cR HO_9.out⟩, ⟨by (with_reducible repeat (first | apply Kd.R_alloc | apply Kd.R_drewN | apply Kd.R_drew)); exact Kd.R_mono HO_395001.out (fun _ hk => trivial)⟩, ⟨G.cb BK382.out⟩, ⟨G.cb BK394.out⟩, ⟨G.cB HB.out⟩⟩
         ·rw [if_neg c26] at H
          exact absurd H (by simp)
        ·rw [if_neg c25] at H
         have c25b0 : decide (x10_2 < (t395.length : Int)) = false := decide_eq_false c25
         clear c25
         by_cases c61 : x6_1.length < 17592186044416
         ·rw [if_pos c61] at H
          have LMc61 := Aside0.mk c61
          clear c61
          obtain ⟨y398, hy398⟩ : ∃ y_ : List Int, y_ = (x6_1 ++ [x8_2]) := ⟨_, rfl⟩
          replace H : (spec_TrailOf.l0 k2 y398 x8_2 x395000_2 x395001_2) = some (r1, r2) := by first | (rw [hy398]; with_reducible exact H) | (have H2_ := (Option.bind_some _ _).symm.trans H; rw [hy398]; with_reducible exact H2_) | (have H2_ := (Option.bind_some _ _).symm.trans H; with_reducible exact H2_) | with_reducible exact H | (rw [hy398]; exact H) | exact H
          have Ny398 := Aside0.mk hy398
          clear hy398
          have H' := Aside0.mk H
          clear H
          obtain ⟨Ao62, co62, eo62⟩ := Kd.R_slice HO_9.out
          subst eo62
          go_wp2_with (first | ((with_reducible refine gate_builtin (b := .append) (xs := #[.tmp 60, .tmp 62]) rfl ?_); at_builtin; refine Kd.R_append (Kd.int .i64) (w0 := w) w.heap.size rfl (.tmp 60) (.tmp 62) 33 3 (.int .i64 0) 8 rfl Try.underlying33 info3 rfl (c18_17) (by omega) u6 x6_1 x8_2 [.int .i64 x8_2] (fun k_ => some k_ ≠ (.slice Ao62 t395.length co62 : Value).ownBlock) (fun _ => False) rfl rfl ?aP (fun _ hk => hk.elim) ?aF ?aO ?aB ?aS ?aL ?_; (case aP => exact rfl); (case aB => exact (G.cB HB.out)); (case aF => exact (fun k_ hk => Kd.fresh' (Kd.R_lt (G.cR HO_9.out)) k_ hk)); (case aO => exact (G.cR HO_6.out)); (case aS => exact (below_size (G.cB HB.out))); (case aL => have := LMc61.out; omega); intro v399 w63 ho hb hg hat; rw [← Ny398.out] at ho; have n0_ := Aside0.mk (Kd.R_after (ok := (fun _ => True)) (by (with_reducible repeat (first | apply Kd.R_alloc | apply Kd.R_drewN | apply Kd.R_drew)); exact Kd.R_mono HO_9.out (fun _ hk => ⟨trivial, hk⟩)) hg hat); have n1_ := Aside0.mk (Kd.R_over' (G.cR HO_395001.out) (Kd.R_typed (G.cR HO_6.out)) (c18_17) hg); have n2_ := Aside0.mk (blk_grown (g := gb382) (o := .cells #[.int .i64 a0_0, .slice A0_1 l0_1.length c0_1] 29 (0, 0)) (G.cb BK382.out) hg (Kd.R_ne HO_6.out BK382.out (c18_17))); have n3_ := Aside0.mk (blk_grown (g := gb394) (o := .cells #[.int .i64 x395000_2, u395001] 29 (0, 0)) (G.cb BK394.out) hg (Kd.R_ne HO_6.out BK394.out (c18_17))); have n4_ := Aside0.mk (hb); have n5_ := Aside0.mk (ho); clear HO_9 HO_395001 BK382 BK394 HB HO_6; revert n0_ n1_ n2_ n3_ n4_ n5_; intro HO_9 HO_395001 BK382 BK394 HB HO400; clear ho hb hg hat))
          go_roundg k2
          case measure => have := HK1.out; have := HK2.out; omega
          case rel => exact ⟨(y398), (x8_2), (x395000_2), (x395001_2), (u395001), (c18_14), H', ⟨by have := HK1.out; have := HK2.out; omega⟩, ⟨by (with_reducible repeat (first | apply Kd.R_alloc | apply Kd.R_drewN | apply Kd.R_drew)); exact Kd.R_mono HO400.out (fun _ hk => trivial)⟩, ⟨G.cR HO_395001.out⟩, ⟨G.cb BK382.out⟩, ⟨G.cb BK394.out⟩, ⟨G.cB HB.out⟩⟩
         ·rw [if_neg c61] at H
          exact absurd H (by simp)
     ·rw [if_neg c19] at H
      have c19b0 : decide (0 < (x395001_1.length : Int)) = false := decide_eq_false c19
      have c19b1 : decide (0 < x395001_1.length) = false := decide_eq_false (by omega)
      clear c19
      simp only [Option.some.injEq, Prod.mk.injEq] at H
      obtain ⟨rfl, rfl⟩ := H
      have hnb64 := NB394_382.out
      have hnc64 := NB382_394.out
      have hcz65_0 : wr.cell? ⟨gb394, 0, none⟩ = some (.int .i64 x395000_1) := (blk_cell BK394.out 0).trans rfl
      have hcz65_1 : wr.cell? ⟨gb394, 1, none⟩ = some (u395001) := (blk_cell BK394.out 1).trans rfl
      have hfz65_0 := blk_frozen BK394.out 0
      have hfz65_1 := blk_frozen BK394.out 1
      obtain ⟨Ao66, co66, eo66⟩ := Kd.R_slice HO_395001.out
      subst eo66
      go_wp2
      go_ret2
      exact ⟨_, by first | rfl | (simp [errW_none, errW_some] <;> rfl) | (simp [*, errW_none, errW_some] <;> rfl), G.cR HO_6.out, G.cB HB.out⟩
  ·rw [if_neg c5] at H
   exact absurd H (by simp)
 ·replace c4 := Bool.eq_false_iff.mpr c4
  subst c4
  have H1 : (some (y383, false)) = some (r1, r2) := by rw [if_neg (show ¬ (false = true) by decide)] at H; exact H
  clear H
  have H := H1
  clear H1
  simp only [Option.some.injEq, Prod.mk.injEq] at H
  obtain ⟨rfl, rfl⟩ := H
  go_enter Try.func23, Try.ntmps23
  go_wp2_with (first | ((with_reducible refine gate_dst (N := 2) rfl ?_); refine G.be 2 #[.int .i64 a0_0, .slice A0_1 l0_1.length c0_1] 29 ?_; intro gb382 hg w67 hbox hb; have n0_ := Aside0.mk (below_step (G.cB HB.out) hb); have n1_ := Aside0.mk (hbox); have n2_ := Aside0.mk ((c18_15 : w.heap.size ≤ gb382)); have n3_ := Aside0.mk ((c18_15 : w.heap.size ≤ gb382)); clear HB; revert n0_ n1_ n2_ n3_; intro HB BK382 GW382 GE382; clear hb hbox hg) | ((with_reducible refine gate_dst (N := 13) rfl ?_); refine Kd.R_lit (Kd.int .i64) _ 3 ?hg (N := 13) ?hd (xs := ([] : List Int)) (inner := []) (ok := fun _ => True) (okp := fun _ => True) ?hr ?hp (fun _ hk => hk) trivial (Below.refl _ _) (Nat.le_refl _) (by simp) ?_; (case hd => rfl); (case hg => rfl); (case hr => first | (go_simp; done) | (go_simp; rfl)); (case hp => exact (Reps.none _ _)); intro v384 w68 ho69 hb hg_ hnew_; clear hg_ hnew_; (first | rw [← Ny383.out] at ho69 | (simp only [Int.reduceToNat] at ho69; rw [← Ny383.out] at ho69)); have n0_ := Aside0.mk (Kd.R_lower ho69 (below_size (G.cB HB.out))); have n1_ := Aside0.mk (blk_below (g := gb382) (o := .cells #[.int .i64 a0_0, .slice A0_1 l0_1.length c0_1] 29 (0, 0)) (G.cb BK382.out) hb); have n2_ := Aside0.mk (below_step (G.cB HB.out) hb); clear BK382 HB; revert n0_ n1_ n2_; intro HO385 BK382 HB; clear hb ho69; have hcz70_0 : w68.cell? ⟨gb382, 0, none⟩ = some (.int .i64 a0_0) := (blk_cell BK382.out 0).trans rfl; have hcz70_1 : w68.cell? ⟨gb382, 1, none⟩ = some (.slice A0_1 l0_1.length c0_1) := (blk_cell BK382.out 1).trans rfl; have hfz70_0 := blk_frozen BK382.out 0; have hfz70_1 := blk_frozen BK382.out 1) | ((with_reducible refine gate_callee (f := 15) rfl ?_); refine goesL_ (some 16) rfl rfl Try.func15 (c18_16) rfl #[.agg #[.int .i64 a0_0, .slice A0_1 l0_1.length c0_1], .int .i64 a1] rfl (G.ar) ?_; (with_reducible refine (spec_TrailCan.calls k a0_0 _ _ l0_1 a1 false _ ?side1 ?side2 A3.out).mono ?_); (case side1 => repeat (first | exact (Kd.C_below HR0_1.out HB.out) | (with_reducible refine Kd.C_alloc ?_ _) | (with_reducible refine Kd.C_drewN ?_ _) | (with_reducible refine Kd.C_drew ?_))); (case side2 => exact HC0_1.out); rintro e w71 ⟨rfl, hb⟩; refine ⟨_, rfl, ?_⟩; have n0_ := Aside0.mk (Kd.R_below (G.cR HO385.out) hb); have n1_ := Aside0.mk (blk_below (g := gb382) (o := .cells #[.int .i64 a0_0, .slice A0_1 l0_1.length c0_1] 29 (0, 0)) (G.cb BK382.out) hb); have n2_ := Aside0.mk (below_step (G.cB HB.out) hb); clear HO385 BK382 HB; revert n0_ n1_ n2_; intro HO385 BK382 HB; (try clear hb); (try clear hb2); (try clear hk); (try clear hi)))
  go_ret2
  exact ⟨_, by first | rfl | (simp [errW_none, errW_some] <;> rfl) | (simp [*, errW_none, errW_some] <;> rfl), G.cR HO385.out, G.cB HB.out⟩

end Go.Proofs.Ytbkdpnfjcnkoeaa.P
