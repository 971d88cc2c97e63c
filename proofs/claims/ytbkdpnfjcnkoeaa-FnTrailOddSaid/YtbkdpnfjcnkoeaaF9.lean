-- Printed by a program of this session (mp.py, over the kit's print). Not trusted: Lean checks it.
import Derived.Test.YtbkdpnfjcnkoeaaF0
import Derived.Test.YtbkdpnfjcnkoeaaF1
import Derived.Test.YtbkdpnfjcnkoeaaF3
import Derived.Test.YtbkdpnfjcnkoeaaF6
namespace Go.Proofs.Ytbkdpnfjcnkoeaa.P
open Go.RowKit Go.Proofs.YtbkdpnfjcnkoeaaW.PrintWords Go.Proofs.YtbkdpnfjcnkoeaaW.PrintLast Go.Proofs.YtbkdpnfjcnkoeaaW.PrintMore
attribute [local go_sem] max2_int min2_int max_two min_two max_three min_three max_four min_four   -- for this text's walks alone
set_option linter.unusedVariables false
set_option linter.unusedSimpArgs false

theorem c9_0 {p : Prop} (h : p := by rw [hg]; exact Nat.ne_of_lt (blk_lt (g := gb278) (o := .cells #[.int .i64 a0_0, .slice A0_1 l0_1.length c0_1] 29 (0, 0)) (G.cb BK278.out))) : p := h
theorem c9_1 {p : Prop} (h : p := by rw [hg]; exact Nat.ne_of_gt (blk_lt (g := gb278) (o := .cells #[.int .i64 a0_0, .slice A0_1 l0_1.length c0_1] 29 (0, 0)) (G.cb BK278.out))) : p := h
theorem c9_2 {p : Prop} (h : p := by rw [hg]; exact (below_size (G.cB HB.out))) : p := h
theorem c9_3 {p : Prop} (h : p := by kernel_rfl) : p := h
attribute [local go_sem high] eqA63
/-! ### spec_NetCut: function 48 -/
def spec_NetCut.l0 : Nat → Int → Int → Int → Int → List (S63) → Int → List (S63) → Option (Int × (List (S63)) × Bool)
 | 0, _, _, _, _, _, _, _ => none
 | k + 1, x1, x2, x9, x279000, x279001, x282000, x282001 => if x9 < (x279001.length : Int) then (if 0 ≤ x9 then ((spec_l1Tie.f x1 x2).bind fun bt283 => (if (!(((rd_T63 x279001 x9).f0) == bt283.1) || (!(((rd_T63 x279001 x9).f1) == bt283.2))) = true then (if x282001.length < 8796093022208 then (spec_NetCut.l0 k x1 x2 (wrap64 (x9 + 1)) x279000 x279001 x282000 (x282001 ++ [(⟨(rd_T63 x279001 x9).f0, (rd_T63 x279001 x9).f1⟩ : S63)])) else (none)) else (spec_NetCut.l0 k x1 x2 (wrap64 (x9 + 1)) x279000 x279001 x282000 x282001))) else (none)) else (some (x282000, x282001, true))
def spec_NetCut.f (k : Nat) (a0_0 : Int) (l0_1 : List (S63)) (a1 : Int) (a2 : Int) : Option (Int × (List (S63)) × Bool) := (spec_NetHas.f k a0_0 l0_1 a1 a2).bind fun t280 => (if t280 = true then (spec_NetCut.l0 k a1 a2 0 a0_0 l0_1 a0_0 ([] : List (S63))) else (some (0, ([] : List (S63)), false)))
theorem spec_NetCut.mono_l : ∀ k, (∀ y0 y1 y2 y3 y4 y5 y6, LeO (spec_NetCut.l0 k y0 y1 y2 y3 y4 y5 y6) (spec_NetCut.l0 (k + 1) y0 y1 y2 y3 y4 y5 y6))
 | 0 => fun _ _ _ _ _ _ _ r h => by simp [spec_NetCut.l0] at h
 | k + 1 => by
  have ih0 := spec_NetCut.mono_l k
  ·intro y0 y1 y2 y3 y4 y5 y6
   unfold spec_NetCut.l0
   repeat' first
   | (with_reducible exact ih0 _ _ _ _ _ _ _)
   | (with_reducible exact spec_NetHas.mono _ _ _ _ _)
   | (with_reducible exact LeO.refl _)
   | (with_reducible exact LeO.none _)
   | (with_reducible refine LeO.ite ?_ ?_)
   | (with_reducible refine LeO.bind ?_ (fun _ => ?_))
   | exact ih0 _ _ _ _ _ _ _
   | exact spec_NetHas.mono _ _ _ _ _
   | exact LeO.none _
   | refine LeO.ite ?_ ?_
   | refine LeO.bind ?_ (fun _ => ?_)
theorem spec_NetCut.mono : ∀ a0 a1 a2 a3 k, LeO (spec_NetCut.f k a0 a1 a2 a3) (spec_NetCut.f (k + 1) a0 a1 a2 a3) := by
 intro a0 a1 a2 a3 k
 have ih0 := spec_NetCut.mono_l k
 unfold spec_NetCut.f
 repeat' first
   | (with_reducible exact ih0 _ _ _ _ _ _ _)
   | (with_reducible exact spec_NetHas.mono _ _ _ _ _)
   | (with_reducible exact LeO.refl _)
   | (with_reducible exact LeO.none _)
   | (with_reducible refine LeO.ite ?_ ?_)
   | (with_reducible refine LeO.bind ?_ (fun _ => ?_))
   | exact ih0 _ _ _ _ _ _ _
   | exact spec_NetHas.mono _ _ _ _ _
   | exact LeO.none _
   | refine LeO.ite ?_ ?_
   | refine LeO.bind ?_ (fun _ => ?_)
def spec_NetCut.T7 : Bool × List (List Nat × List Nat) := (true, [([], []), ([0], [0]), ([], []), ([1, 2], [1, 2]), ([3], [3]), ([], []), ([], []), ([5, 6], [5, 6]), ([4, 7], [4, 7])])
def spec_NetCut.B7 : List Nat := [0, 1, 0, 7, 15, 0, 0, 96, 255]
theorem spec_NetCut.tab7 : rtab .any (opsOf Try.f48 7) = spec_NetCut.T7 := by kernel_rfl
theorem spec_NetCut.bits7 : waitsOk spec_NetCut.T7.2 spec_NetCut.B7 = true := by kernel_rfl
def spec_NetCut.T8 : Bool × List (List Nat × List Nat) := (true, [([], []), ([0], [0]), ([], []), ([2], [2]), ([], []), ([3, 4], [3, 4]), ([5], [5]), ([6], [6]), ([1, 7], [1, 7]), ([0, 1, 2, 3, 4, 5, 6, 7, 8], []), ([9, 8, 8, 0, 1, 2, 3, 4, 5, 6, 7, 8], [8, 9])])
def spec_NetCut.B8 : List Nat := [0, 1, 0, 4, 0, 28, 60, 124, 255, 511, 1023]
theorem spec_NetCut.tab8 : rtab .any (opsOf Try.f48 8) = spec_NetCut.T8 := by kernel_rfl
theorem spec_NetCut.bits8 : waitsOk spec_NetCut.T8.2 spec_NetCut.B8 = true := by kernel_rfl
set_option maxHeartbeats 8000000 in
set_option maxRecDepth 100000 in
theorem spec_NetCut.calls (k : Nat) (a0_0 : Int) (A0_1 : Option Addr) (c0_1 : Nat) (l0_1 : List (S63)) (a1 : Int) (a2 : Int) (r1 : Int) (r2 : List (S63)) (r3 : Bool) (w : World) (hr0_1 : Kd.C k63 w A0_1 l0_1.length l0_1) (hc0_1 : l0_1.length ≤ c0_1) (h : spec_NetCut.f k a0_0 l0_1 a1 a2 = some (r1, r2, r3)) :
  Calls Try.prog 48 #[.agg #[.int .i64 a0_0, .slice A0_1 l0_1.length c0_1], .int .i64 a1, .int .i64 a2] w fun e w' => ∃ v1_ : Value, e = .returned (.tuple #[.agg #[.int .i64 r1, v1_], .bool r3]) ∧ Kd.R k63 63 w' w.heap.size (fun _ => True) v1_ r2 ∧ Below w.heap.size w w' := by
 have hu29 := Try.underlying29
 have hu63 := Try.underlying63
 have HR0_1 := Aside0.mk hr0_1
 have HC0_1 := Aside0.mk hc0_1
 clear hr0_1 hc0_1
 have HB := Aside0.mk (Below.refl w.heap.size w)
 have H : ((spec_NetHas.f k a0_0 l0_1 a1 a2).bind fun t280 => (if t280 = true then (spec_NetCut.l0 k a1 a2 0 a0_0 l0_1 a0_0 ([] : List (S63))) else (some (0, ([] : List (S63)), false)))) = some (r1, r2, r3) := h
 clear h
 replace H := Option.bind_eq_some_iff.mp H
 obtain ⟨t280, A40, H⟩ := H
 replace H : (if t280 = true then (spec_NetCut.l0 k a1 a2 0 a0_0 l0_1 a0_0 ([] : List (S63))) else (some (0, ([] : List (S63)), false))) = some (r1, r2, r3) := H
 have A4 := Aside0.mk A40
 clear A40
 by_cases c5 : t280 = true
 ·subst c5
  have H1 : (spec_NetCut.l0 k a1 a2 0 a0_0 l0_1 a0_0 ([] : List (S63))) = some (r1, r2, r3) := by rw [if_pos rfl] at H; exact H
  clear H
  have H := H1
  clear H1
  have H' := Aside0.mk H
  clear H
  go_enter Try.func48, Try.ntmps48
  go_wp2_with (first | ((with_reducible refine gate_dst (N := 3) rfl ?_); refine G.be 3 #[.int .i64 a0_0, .slice A0_1 l0_1.length c0_1] 29 ?_; intro gb278 hg w6 hbox hb; have n0_ := Aside0.mk (below_step (G.cB HB.out) hb); have n1_ := Aside0.mk (hbox); have n2_ := Aside0.mk ((c9_2 : w.heap.size ≤ gb278)); have n3_ := Aside0.mk ((c9_2 : w.heap.size ≤ gb278)); clear HB; revert n0_ n1_ n2_ n3_; intro HB BK278 GW278 GE278; clear hb hbox hg) | ((with_reducible refine gate_dst (N := 6) rfl ?_); refine G.be 6 #[.int .i64 0, .slice none 0 0] 29 ?_; intro gb279 hg w7 hbox hb; have n0_ := Aside0.mk (blk_below (g := gb278) (o := .cells #[.int .i64 a0_0, .slice A0_1 l0_1.length c0_1] 29 (0, 0)) (G.cb BK278.out) hb); have n1_ := Aside0.mk (below_step (G.cB HB.out) hb); have n2_ := Aside0.mk (hbox); have n3_ := Aside0.mk ((c9_2 : w.heap.size ≤ gb279)); have n4_ := Aside0.mk ((c9_2 : w.heap.size ≤ gb279)); have n5_ := Aside0.mk ((c9_0 : gb278 ≠ gb279)); have n6_ := Aside0.mk ((c9_1 : gb279 ≠ gb278)); clear BK278 HB; revert n0_ n1_ n2_ n3_ n4_ n5_ n6_; intro BK278 HB BK279 GW279 GE279 NB278_279 NB279_278; clear hb hbox hg; have hnb8 := NB278_279.out; have hnc8 := NB279_278.out; have hcz9_0 : w7.cell? ⟨gb278, 0, none⟩ = some (.int .i64 a0_0) := (blk_cell BK278.out 0).trans rfl; have hcz9_1 : w7.cell? ⟨gb278, 1, none⟩ = some (.slice A0_1 l0_1.length c0_1) := (blk_cell BK278.out 1).trans rfl; have hfz9_0 := blk_frozen BK278.out 0; have hfz9_1 := blk_frozen BK278.out 1) | ((with_reducible refine gate_callee (f := 67) rfl ?_); refine goesL_ (some 13) rfl rfl Try.func67 (c9_3) rfl #[.agg #[.int .i64 a0_0, .slice A0_1 l0_1.length c0_1], .int .i64 a1, .int .i64 a2] rfl (G.ar) ?_; (with_reducible refine (spec_NetHas.calls k a0_0 _ _ l0_1 a1 a2 true _ ?side1 ?side2 A4.out).mono ?_); (case side1 => repeat (first | exact (Kd.C_below HR0_1.out HB.out) | (with_reducible refine Kd.C_alloc ?_ _) | (with_reducible refine Kd.C_drewN ?_ _) | (with_reducible refine Kd.C_drew ?_))); (case side2 => exact HC0_1.out); rintro e w10 ⟨rfl, hb⟩; refine ⟨_, rfl, ?_⟩; have n0_ := Aside0.mk (blk_below (g := gb278) (o := .cells #[.int .i64 a0_0, .slice A0_1 l0_1.length c0_1] 29 (0, 0)) (G.cb BK278.out) hb); have n1_ := Aside0.mk (blk_below (g := gb279) (o := .cells #[.int .i64 0, .slice none 0 0] 29 (0, 0)) (G.cb BK279.out) hb); have n2_ := Aside0.mk (below_step (G.cB HB.out) hb); clear BK278 BK279 HB; revert n0_ n1_ n2_; intro BK278 BK279 HB; (try clear hb); (try clear hb2); (try clear hk); (try clear hi); have hcz11_0 : w10.cell? ⟨gb278, 0, none⟩ = some (.int .i64 a0_0) := (blk_cell BK278.out 0).trans rfl; have hcz11_1 : w10.cell? ⟨gb278, 1, none⟩ = some (.slice A0_1 l0_1.length c0_1) := (blk_cell BK278.out 1).trans rfl; have hfz11_0 := blk_frozen BK278.out 0; have hfz11_1 := blk_frozen BK278.out 1) | ((with_reducible refine gate_dst (N := 8) rfl ?_); refine G.be 8 #[.int .i64 0, .slice none 0 0] 29 ?_; intro gb281 hg w12 hbox hb; have n0_ := Aside0.mk (blk_below (g := gb278) (o := .cells #[.int .i64 a0_0, .slice A0_1 l0_1.length c0_1] 29 (0, 0)) (G.cb BK278.out) hb); have n1_ := Aside0.mk (blk_below (g := gb279) (o := .cells #[.int .i64 0, .slice none 0 0] 29 (0, 0)) (G.cb BK279.out) hb); have n2_ := Aside0.mk (below_step (G.cB HB.out) hb); have n3_ := Aside0.mk (hbox); have n4_ := Aside0.mk ((c9_2 : w.heap.size ≤ gb281)); have n5_ := Aside0.mk ((c9_2 : w.heap.size ≤ gb281)); have n6_ := Aside0.mk ((c9_0 : gb278 ≠ gb281)); have n7_ := Aside0.mk ((c9_1 : gb281 ≠ gb278)); have n8_ := Aside0.mk ((by rw [hg]; exact Nat.ne_of_lt (blk_lt (g := gb279) (o := .cells #[.int .i64 0, .slice none 0 0] 29 (0, 0)) (G.cb BK279.out)) : gb279 ≠ gb281)); have n9_ := Aside0.mk ((by rw [hg]; exact Nat.ne_of_gt (blk_lt (g := gb279) (o := .cells #[.int .i64 0, .slice none 0 0] 29 (0, 0)) (G.cb BK279.out)) : gb281 ≠ gb279)); clear BK278 BK279 HB; revert n0_ n1_ n2_ n3_ n4_ n5_ n6_ n7_ n8_ n9_; intro BK278 BK279 HB BK281 GW281 GE281 NB278_281 NB281_278 NB279_281 NB281_279; clear hb hbox hg; have hnb13 := NB281_278.out; have hnc13 := NB278_281.out; have hnb14 := NB281_279.out; have hnc14 := NB279_281.out; have hcz15_0 : w12.cell? ⟨gb281, 0, none⟩ = some (.int .i64 0) := (blk_cell BK281.out 0).trans rfl; have hcz15_1 : w12.cell? ⟨gb281, 1, none⟩ = some (.slice none 0 0) := (blk_cell BK281.out 1).trans rfl; have hfz15_0 := blk_frozen BK281.out 0; have hfz15_1 := blk_frozen BK281.out 1))
  go_loopg [9] k (fun kq v9 w' => ∃ (x9_1 : Int) (x282001_1 : List (S63)) (u282001 : Value), v9 = .int .i64 x9_1 ∧ Aside0 (spec_NetCut.l0 kq a1 a2 x9_1 a0_0 l0_1 a0_0 x282001_1 = some (r1, r2, r3)) ∧ Aside0 (kq ≤ k) ∧ Aside0 (Kd.R k63 63 w' w.heap.size (fun _ => True) u282001 x282001_1) ∧ Aside0 (w'.heap[gb278]? = some (.cells #[.int .i64 a0_0, (.slice A0_1 l0_1.length c0_1)] 29 (0, 0))) ∧ Aside0 (w'.heap[gb279]? = some (.cells #[.int .i64 0, (.slice none 0 0)] 29 (0, 0))) ∧ Aside0 (w'.heap[gb281]? = some (.cells #[.int .i64 a0_0, u282001] 29 (0, 0))) ∧ Aside0 (Below w.heap.size w w'))
  case atStart => exact ⟨(0), (([] : List (S63))), (.slice none 0 0), (by first | rfl | (simp; done) | (simp [*]; done)), H', ⟨Nat.le_refl _⟩, ⟨by first | exact Kd.R_nil _ _ _ _ _ | exact Kd.N_nil _ _ _ _ _ | exact Kd.V_nil _ _ _ _ _ | exact Kd.Q_nil _ _ _ _ _ | exact Kd.S_nil _ _ _ _ _⟩, ⟨by (with_reducible repeat (first | refine blk_drewN ?_ _ | refine blk_drew ?_ | refine blk_alloc ?_ _)); refine blk_far ?_ NB278_281.out _; (with_reducible repeat (first | refine blk_drewN ?_ _ | refine blk_drew ?_ | refine blk_alloc ?_ _)); refine blk_far ?_ NB278_281.out _; (with_reducible repeat (first | refine blk_drewN ?_ _ | refine blk_drew ?_ | refine blk_alloc ?_ _)); exact BK278.out⟩, ⟨by (with_reducible repeat (first | refine blk_drewN ?_ _ | refine blk_drew ?_ | refine blk_alloc ?_ _)); refine blk_far ?_ NB279_281.out _; (with_reducible repeat (first | refine blk_drewN ?_ _ | refine blk_drew ?_ | refine blk_alloc ?_ _)); refine blk_far ?_ NB279_281.out _; (with_reducible repeat (first | refine blk_drewN ?_ _ | refine blk_drew ?_ | refine blk_alloc ?_ _)); exact BK279.out⟩, ⟨by (with_reducible repeat (first | refine blk_drewN ?_ _ | refine blk_drew ?_ | refine blk_alloc ?_ _)); refine blk_put (cs := #[.int .i64 a0_0, .slice none 0 0]) ?_ 1 _ rfl; (with_reducible repeat (first | refine blk_drewN ?_ _ | refine blk_drew ?_ | refine blk_alloc ?_ _)); refine blk_put (cs := #[.int .i64 0, .slice none 0 0]) ?_ 0 _ rfl; (with_reducible repeat (first | refine blk_drewN ?_ _ | refine blk_drew ?_ | refine blk_alloc ?_ _)); exact BK281.out⟩, ⟨G.cB HB.out⟩⟩
  case round =>
   clear H'
   (try clear c1); (try clear p2); (try clear c4); (try clear c5); (try clear c6); (try clear c8); (try clear c13); (try clear c14); (try clear hcz11_0); (try clear hcz11_1); (try clear hcz15_0); (try clear hcz15_1); (try clear hcz9_0); (try clear hcz9_1); (try clear hfz11_0); (try clear hfz11_1); (try clear hfz15_0); (try clear hfz15_1); (try clear hfz9_0); (try clear hfz9_1)
   obtain ⟨x9_1, x282001_1, u282001, rfl, HA, HK1, HO_282001, BK278, BK279, BK281, HB⟩ := hrel
   cases gk with
   | zero => exact absurd HA.out (by simp [spec_NetCut.l0])
   | succ k1 =>
    have H := HA.out
    clear HA
    simp only [spec_NetCut.l0] at H
    by_cases c16 : x9_1 < (l0_1.length : Int)
    ·rw [if_pos c16] at H
     have c16b0 : decide (x9_1 < (l0_1.length : Int)) = true := decide_eq_true c16
     clear c16
     by_cases c17 : 0 ≤ x9_1
     ·rw [if_pos c17] at H
      have c17b0 : decide (0 ≤ x9_1) = true := decide_eq_true c17
      clear c17
      replace H := Option.bind_eq_some_iff.mp H
      obtain ⟨⟨t283, t284⟩, A180, H⟩ := H
      replace H : (if (!(((rd_T63 l0_1 x9_1).f0) == t283) || (!(((rd_T63 l0_1 x9_1).f1) == t284))) = true then (if x282001_1.length < 8796093022208 then (spec_NetCut.l0 k1 a1 a2 (wrap64 (x9_1 + 1)) a0_0 l0_1 a0_0 (x282001_1 ++ [(⟨(rd_T63 l0_1 x9_1).f0, (rd_T63 l0_1 x9_1).f1⟩ : S63)])) else (none)) else (spec_NetCut.l0 k1 a1 a2 (wrap64 (x9_1 + 1)) a0_0 l0_1 a0_0 x282001_1)) = some (r1, r2, r3) := H
      have A18 := Aside0.mk A180
      clear A180
      by_cases c19 : (!(((rd_T63 l0_1 x9_1).f0) == t283) || (!(((rd_T63 l0_1 x9_1).f1) == t284))) = true
      ·rw [if_pos c19] at H
       have c19b0 : (!(((rd_T63 l0_1 x9_1).f0) == t283) || (!(((rd_T63 l0_1 x9_1).f1) == t284))) = true := c19
       clear c19
       by_cases c20 : x282001_1.length < 8796093022208
       ·rw [if_pos c20] at H
        have LMc20 := Aside0.mk c20
        clear c20
        obtain ⟨y286, hy286⟩ : ∃ y_ : List (S63), y_ = (x282001_1 ++ [(⟨(rd_T63 l0_1 x9_1).f0, (rd_T63 l0_1 x9_1).f1⟩ : S63)]) := ⟨_, rfl⟩
        replace H : (spec_NetCut.l0 k1 a1 a2 (wrap64 (x9_1 + 1)) a0_0 l0_1 a0_0 y286) = some (r1, r2, r3) := by first | (rw [hy286]; with_reducible exact H) | (have H2_ := (Option.bind_some _ _).symm.trans H; rw [hy286]; with_reducible exact H2_) | (have H2_ := (Option.bind_some _ _).symm.trans H; with_reducible exact H2_) | with_reducible exact H | (rw [hy286]; exact H) | exact H
        have Ny286 := Aside0.mk hy286
        clear hy286
        have H' := Aside0.mk H
        clear H
        have hnb21 := NB278_279.out
        have hnc21 := NB279_278.out
        have hnb22 := NB278_281.out
        have hnc22 := NB281_278.out
        have hcz23_0 : wr.cell? ⟨gb278, 0, none⟩ = some (.int .i64 a0_0) := (blk_cell BK278.out 0).trans rfl
        have hcz23_1 : wr.cell? ⟨gb278, 1, none⟩ = some (.slice A0_1 l0_1.length c0_1) := (blk_cell BK278.out 1).trans rfl
        have hfz23_0 := blk_frozen BK278.out 0
        have hfz23_1 := blk_frozen BK278.out 1
        try go_wp2
        have n0_ := Aside0.mk (Kd.R_drew HO_282001.out)
        have n1_ := Aside0.mk (blk_drew BK278.out)
        have n2_ := Aside0.mk (blk_drew BK279.out)
        have n3_ := Aside0.mk (blk_drew BK281.out)
        have n4_ := Aside0.mk (below_drew1 HB.out)
        clear HO_282001 BK278 BK279 BK281 HB
        revert n0_ n1_ n2_ n3_ n4_
        intro HO_282001 BK278 BK279 BK281 HB
        have p282 : 0 ≤ (x9_1 : Int) := of_decide_eq_true (G.asm)
        have q282 : x9_1 < (l0_1.length : Int) := of_decide_eq_true (G.asm)
        obtain ⟨ad282, e282, hx282_0, hx282_1⟩ := at_T63 HR0_1.out x9_1 p282 q282
        have hw282_1 := hx282_1
        have hw282_0 := hx282_0
        cases e282
        replace hx282_0 := (HB.out.cell (World.block_lt_of_cell? w _ hx282_0)).trans hx282_0
        replace hx282_1 := (HB.out.cell (World.block_lt_of_cell? w _ hx282_1)).trans hx282_1
        replace p282 := eq_true p282
        replace q282 := eq_true q282
        refine start_ (n := 9) (S := fun w' => w'.cell? ⟨gb278, 0, none⟩ = some (.int .i64 a0_0) ∧ w'.cell? ⟨gb278, 1, none⟩ = some (.slice (some ad282) l0_1.length c0_1) ∧ w'.cell? (ad282.add ((x9_1).toNat * 2)) = some (.int .i64 ((rd_T63 l0_1 x9_1).f0)) ∧ w'.cell? ⟨(ad282.add ((x9_1).toNat * 2)).block, (ad282.add ((x9_1).toNat * 2)).off + 1, none⟩ = some (.int .i64 ((rd_T63 l0_1 x9_1).f1))) (ds := []) (G.fl 9 0) (c9_3) rfl (c9_3) ⟨(blk_cell BK278.out 0).trans rfl, (blk_cell BK278.out 1).trans rfl, ((HB.out.cell (World.block_lt_of_cell? w _ hw282_0)).trans hw282_0), ((HB.out.cell (World.block_lt_of_cell? w _ hw282_1)).trans hw282_1)⟩ (fun hHeld => ?_); refine with_tabW spec_NetCut.tab7 spec_NetCut.bits7 (fun HT_ HW_ => ?_)
        generalize wr.drew = w24 at HO_282001 BK278 BK279 BK281 HB hx282_0 hx282_1 hHeld ⊢
        refine G.pu 0 (some 26) (G.fl 9 1) ?_
        refine G.pu 2 (some 28) (G.fl 9 5) ?_
        refine G.pu 5 (some 31) (G.fl 9 37) ?_
        refine G.pu 6 (some 32) (G.fl 9 101) ?_
        refine G.ta4 1 (some 27) (G.fl 9 103) ?_
        refine G.pu 3 (some 29) (G.fl 9 111) ?_
        refine G.ta4 4 (some 30) (G.fl 9 127) ?_
        refine one_ (i := 7) (N := some 33) (G.fl 9 255) rfl rfl (one_of HT_.out (c9_3)) (by decide) (fun K hK => ?_)
        refine goes_ Try.func68 (c9_3) rfl #[.int .i64 a1, .int .i64 a2] (by rfl) rfl rfl (G.ar) ?_
        with_reducible refine (spec_l1Tie.calls a1 a2 t283 t284 _ A18.out).mono ?_
        rintro e w25 ⟨rfl, hb⟩
        refine ⟨_, rfl, ?_⟩
        have n0_ := Aside0.mk (Kd.R_below (G.cR HO_282001.out) hb)
        have n1_ := Aside0.mk (blk_below (g := gb278) (o := .cells #[.int .i64 a0_0, .slice (some ad282) l0_1.length c0_1] 29 (0, 0)) (G.cb BK278.out) hb)
        have n2_ := Aside0.mk (blk_below (g := gb279) (o := .cells #[.int .i64 0, .slice none 0 0] 29 (0, 0)) (G.cb BK279.out) hb)
        have n3_ := Aside0.mk (blk_below (g := gb281) (o := .cells #[.int .i64 a0_0, u282001] 29 (0, 0)) (G.cb BK281.out) hb)
        have n4_ := Aside0.mk (below_step (G.cB HB.out) hb)
        clear HO_282001 BK278 BK279 BK281 HB
        revert n0_ n1_ n2_ n3_ n4_
        intro HO_282001 BK278 BK279 BK281 HB
        (try clear hb)
        (try clear hb2)
        (try clear hk)
        (try clear hi)
        refine hK.out _ _ ⟨(blk_cell BK278.out 0).trans rfl, (blk_cell BK278.out 1).trans rfl, ((HB.out.cell (World.block_lt_of_cell? w _ hw282_0)).trans hw282_0), ((HB.out.cell (World.block_lt_of_cell? w _ hw282_1)).trans hw282_1)⟩ (fun hHeld => ?_)
        clear hK K
        refine G.no (some 33) ?_
        refine G.pu 8 (some 34) (G.fl 9 511) ?_
        refine done_ (done_of HT_.out (c9_3)) ?_
        try go_wp2
        have n0_ := Aside0.mk (Kd.R_drew HO_282001.out)
        have n1_ := Aside0.mk (blk_drew BK278.out)
        have n2_ := Aside0.mk (blk_drew BK279.out)
        have n3_ := Aside0.mk (blk_drew BK281.out)
        have n4_ := Aside0.mk (below_drew1 HB.out)
        clear HO_282001 BK278 BK279 BK281 HB
        revert n0_ n1_ n2_ n3_ n4_
        intro HO_282001 BK278 BK279 BK281 HB
        have p285 : 0 ≤ (x9_1 : Int) := of_decide_eq_true (G.asm)
        have q285 : x9_1 < (l0_1.length : Int) := of_decide_eq_true (G.asm)
        obtain ⟨ad285, e285, hx285_0, hx285_1⟩ := at_T63 HR0_1.out x9_1 p285 q285
        have hw285_1 := hx285_1
        have hw285_0 := hx285_0
        obtain rfl : ad282 = ad285 := (by injection e285)
        replace hx285_0 := (HB.out.cell (World.block_lt_of_cell? w _ hx285_0)).trans hx285_0
        replace hx285_1 := (HB.out.cell (World.block_lt_of_cell? w _ hx285_1)).trans hx285_1
        replace p285 := eq_true p285
        replace q285 := eq_true q285
        refine start_ (n := 11) (S := fun w' => w'.cell? ⟨gb281, 0, none⟩ = some (.int .i64 a0_0) ∧ w'.cell? ⟨gb281, 1, none⟩ = some (u282001) ∧ w'.cell? ⟨gb278, 0, none⟩ = some (.int .i64 a0_0) ∧ w'.cell? ⟨gb278, 1, none⟩ = some (.slice (some ad282) l0_1.length c0_1) ∧ w'.cell? (ad282.add ((x9_1).toNat * 2)) = some (.int .i64 ((rd_T63 l0_1 x9_1).f0)) ∧ w'.cell? ⟨(ad282.add ((x9_1).toNat * 2)).block, (ad282.add ((x9_1).toNat * 2)).off + 1, none⟩ = some (.int .i64 ((rd_T63 l0_1 x9_1).f1))) (ds := [10]) (G.fl 11 0) (c9_3) rfl (c9_3) ⟨(blk_cell BK281.out 0).trans rfl, (blk_cell BK281.out 1).trans rfl, (blk_cell BK278.out 0).trans rfl, (blk_cell BK278.out 1).trans rfl, ((HB.out.cell (World.block_lt_of_cell? w _ hw285_0)).trans hw285_0), ((HB.out.cell (World.block_lt_of_cell? w _ hw285_1)).trans hw285_1)⟩ (fun hHeld => ?_); refine with_tabW spec_NetCut.tab8 spec_NetCut.bits8 (fun HT_ HW_ => ?_)
        generalize w25.drew = w26 at HO_282001 BK278 BK279 BK281 HB hx285_0 hx285_1 hHeld ⊢
        refine G.pu 0 (some 35) (G.fl 11 1) ?_
        refine G.pu 2 (some 37) (G.fl 11 5) ?_
        refine G.pu 4 (some 39) (G.fl 11 21) ?_
        refine G.ta6 1 (some 36) (G.fl 11 23) ?_
        refine G.ta6 3 (some 38) (G.fl 11 31) ?_
        refine G.pu 5 (some 40) (G.fl 11 63) ?_
        refine G.ta6 6 (some 41) (G.fl 11 127) ?_
        refine one_ (i := 7) (N := some 42) (G.fl 11 255) rfl rfl (one_of HT_.out (c9_3)) (by decide) (fun K hK => ?_)
        refine value_ (w1 := ?_) (v := ?_) (by rfl) rfl ?_ ?_
        rotate_left 2
        ·go_simp
         constructor
         ·rfl
         ·rfl
        refine hK.out _ _ ⟨(blk_cell (blk_alloc BK281.out _) 0).trans rfl, (blk_cell (blk_alloc BK281.out _) 1).trans rfl, (blk_cell (blk_alloc BK278.out _) 0).trans rfl, (blk_cell (blk_alloc BK278.out _) 1).trans rfl, (World.cell?_alloc_lt _ _ _ (World.block_lt_of_cell? _ _ (((HB.out.cell (World.block_lt_of_cell? w _ hw285_0)).trans hw285_0)))).trans (((HB.out.cell (World.block_lt_of_cell? w _ hw285_0)).trans hw285_0)), (World.cell?_alloc_lt _ _ _ (World.block_lt_of_cell? _ _ (((HB.out.cell (World.block_lt_of_cell? w _ hw285_1)).trans hw285_1)))).trans (((HB.out.cell (World.block_lt_of_cell? w _ hw285_1)).trans hw285_1))⟩ (fun hHeld => ?_)
        clear hK K
        refine G.no (some 42) ?_
        refine one_ (i := 8) (N := some 43) (G.fl 11 511) rfl rfl (one_of HT_.out (c9_3)) (by decide) (fun K hK => ?_)
        refine Kd.R_append_step k63 (w0 := w) w.heap.size (by rfl) (.tmp 36) (.tmp 42) 27 63 (.agg #[(.int .i64 0), (.int .i64 0)]) 16 rfl Try.underlying27 info63 rfl (by decide) (by omega) u282001 x282001_1 (⟨(rd_T63 l0_1 x9_1).f0, (rd_T63 l0_1 x9_1).f1⟩ : S63) [.int .i64 ((rd_T63 l0_1 x9_1).f0), .int .i64 ((rd_T63 l0_1 x9_1).f1)] (fun _ => True) (fun _ => False) rfl rfl ?aP (fun _ hk => hk.elim) ?aF ?aO ?aB ?aS ?aL ?_
        (case aP => exact k63_mkM _ _ _ (⟨(rd_T63 l0_1 x9_1).f0, (rd_T63 l0_1 x9_1).f1⟩ : S63))
        (case aB => exact (G.cB HB.out))
        (case aF => exact (fun _ _ => trivial))
        (case aO => exact (G.cR HO_282001.out))
        (case aS => exact (below_size (G.cB HB.out)))
        (case aL => have := LMc20.out; omega)
        intro v287 w27 ho hb hg hat
        rw [← Ny286.out] at ho
        have n0_ := Aside0.mk (blk_grown (g := gb278) (o := .cells #[.int .i64 a0_0, .slice (some ad282) l0_1.length c0_1] 29 (0, 0)) (G.cb BK278.out) hg (Kd.R_ne HO_282001.out BK278.out (by decide)))
        have n1_ := Aside0.mk (blk_grown (g := gb279) (o := .cells #[.int .i64 0, .slice none 0 0] 29 (0, 0)) (G.cb BK279.out) hg (Kd.R_ne HO_282001.out BK279.out (by decide)))
        have n2_ := Aside0.mk (blk_grown (g := gb281) (o := .cells #[.int .i64 a0_0, u282001] 29 (0, 0)) (G.cb BK281.out) hg (Kd.R_ne HO_282001.out BK281.out (by decide)))
        have n3_ := Aside0.mk (hb)
        have n4_ := Aside0.mk (ho)
        clear BK278 BK279 BK281 HB HO_282001
        revert n0_ n1_ n2_ n3_ n4_
        intro BK278 BK279 BK281 HB HO288
        clear ho hb hg hat
        obtain ⟨Ao28, co28, eo28⟩ := Kd.R_slice HO288.out
        (first | subst eo28 | (injection eo28 with f1_ f2_ f3_; have f4_ := f1_.symm; have f5_ := f3_.symm; clear f1_ f2_ f3_; subst f4_; subst f5_))
        refine hK.out _ _ ⟨(blk_cell BK281.out 0).trans rfl, (blk_cell BK281.out 1).trans rfl, (blk_cell BK278.out 0).trans rfl, (blk_cell BK278.out 1).trans rfl, ((HB.out.cell (World.block_lt_of_cell? w _ hw285_0)).trans hw285_0), ((HB.out.cell (World.block_lt_of_cell? w _ hw285_1)).trans hw285_1)⟩ (fun hHeld => ?_)
        clear hK K
        refine G.no (some 43) ?_
        refine G.pu 9 (some 44) (G.fl 11 1023) ?_
        refine last_ (i := 10) (N := none) (G.fl 11 2047) rfl rfl (one_of HT_.out (c9_3)) (by decide) (fun K hK => ?_)
        have hs29 : w27.cell? ⟨gb281, 1, none⟩ = some (u282001) := (blk_cell BK281.out 1).trans rfl
        have hfs29 := blk_frozen BK281.out 1
        have hns29_0 := NB278_281.out
        have hns29_1 := NB279_281.out
        have hms29_0 := NB281_278.out
        have hms29_1 := NB281_279.out
        refine skip_ (w1 := ?_) (by rfl) rfl ?_ ?_
        rotate_left
        ·go_simp
         rfl
        refine hK.out _ _ ?_
        clear hK K
        refine done_ (done_of HT_.out (c9_3)) ?_
        try go_wp2
        go_roundg k1
        case measure => have := HK1.out; omega
        case rel => exact ⟨(wrap64 (x9_1 + 1)), (y286), (.slice Ao28 y286.length co28), (by first | rfl | (simp; done) | (simp [*]; done)), H', ⟨by have := HK1.out; omega⟩, ⟨by (with_reducible repeat (first | apply Kd.R_alloc | apply Kd.R_drewN | apply Kd.R_drew)); exact Kd.R_mono (Kd.R_far (p := ⟨gb281, 1, none⟩) (Kd.R_types HO288.out BK281.out (by decide)) (fun _ hk => hk.2) (.slice Ao28 y286.length co28)) (fun _ hk => trivial)⟩, ⟨by (with_reducible repeat (first | refine blk_drewN ?_ _ | refine blk_drew ?_ | refine blk_alloc ?_ _)); refine blk_far ?_ NB278_281.out _; (with_reducible repeat (first | refine blk_drewN ?_ _ | refine blk_drew ?_ | refine blk_alloc ?_ _)); exact BK278.out⟩, ⟨by (with_reducible repeat (first | refine blk_drewN ?_ _ | refine blk_drew ?_ | refine blk_alloc ?_ _)); refine blk_far ?_ NB279_281.out _; (with_reducible repeat (first | refine blk_drewN ?_ _ | refine blk_drew ?_ | refine blk_alloc ?_ _)); exact BK279.out⟩, ⟨by (with_reducible repeat (first | refine blk_drewN ?_ _ | refine blk_drew ?_ | refine blk_alloc ?_ _)); refine blk_put (cs := #[.int .i64 a0_0, u282001]) ?_ 1 _ rfl; (with_reducible repeat (first | refine blk_drewN ?_ _ | refine blk_drew ?_ | refine blk_alloc ?_ _)); exact BK281.out⟩, ⟨G.cB HB.out⟩⟩
       ·rw [if_neg c20] at H
        exact absurd H (by simp)
      ·rw [if_neg c19] at H
       have c19b0 : (!(((rd_T63 l0_1 x9_1).f0) == t283) || (!(((rd_T63 l0_1 x9_1).f1) == t284))) = false := by simpa using c19
       clear c19
       have H' := Aside0.mk H
       clear H
       have hnb30 := NB278_279.out
       have hnc30 := NB279_278.out
       have hnb31 := NB278_281.out
       have hnc31 := NB281_278.out
       have hcz32_0 : wr.cell? ⟨gb278, 0, none⟩ = some (.int .i64 a0_0) := (blk_cell BK278.out 0).trans rfl
       have hcz32_1 : wr.cell? ⟨gb278, 1, none⟩ = some (.slice A0_1 l0_1.length c0_1) := (blk_cell BK278.out 1).trans rfl
       have hfz32_0 := blk_frozen BK278.out 0
       have hfz32_1 := blk_frozen BK278.out 1
       try go_wp2
       have n0_ := Aside0.mk (Kd.R_drew HO_282001.out)
       have n1_ := Aside0.mk (blk_drew BK278.out)
       have n2_ := Aside0.mk (blk_drew BK279.out)
       have n3_ := Aside0.mk (blk_drew BK281.out)
       have n4_ := Aside0.mk (below_drew1 HB.out)
       clear HO_282001 BK278 BK279 BK281 HB
       revert n0_ n1_ n2_ n3_ n4_
       intro HO_282001 BK278 BK279 BK281 HB
       have p282 : 0 ≤ (x9_1 : Int) := of_decide_eq_true (G.asm)
       have q282 : x9_1 < (l0_1.length : Int) := of_decide_eq_true (G.asm)
       obtain ⟨ad282, e282, hx282_0, hx282_1⟩ := at_T63 HR0_1.out x9_1 p282 q282
       have hw282_1 := hx282_1
       have hw282_0 := hx282_0
       cases e282
       replace hx282_0 := (HB.out.cell (World.block_lt_of_cell? w _ hx282_0)).trans hx282_0
       replace hx282_1 := (HB.out.cell (World.block_lt_of_cell? w _ hx282_1)).trans hx282_1
       replace p282 := eq_true p282
       replace q282 := eq_true q282
       refine start_ (n := 9) (S := fun w' => w'.cell? ⟨gb278, 0, none⟩ = some (.int .i64 a0_0) ∧ w'.cell? ⟨gb278, 1, none⟩ = some (.slice (some ad282) l0_1.length c0_1) ∧ w'.cell? (ad282.add ((x9_1).toNat * 2)) = some (.int .i64 ((rd_T63 l0_1 x9_1).f0)) ∧ w'.cell? ⟨(ad282.add ((x9_1).toNat * 2)).block, (ad282.add ((x9_1).toNat * 2)).off + 1, none⟩ = some (.int .i64 ((rd_T63 l0_1 x9_1).f1))) (ds := []) (G.fl 9 0) (c9_3) rfl (c9_3) ⟨(blk_cell BK278.out 0).trans rfl, (blk_cell BK278.out 1).trans rfl, ((HB.out.cell (World.block_lt_of_cell? w _ hw282_0)).trans hw282_0), ((HB.out.cell (World.block_lt_of_cell? w _ hw282_1)).trans hw282_1)⟩ (fun hHeld => ?_); refine with_tabW spec_NetCut.tab7 spec_NetCut.bits7 (fun HT_ HW_ => ?_)
       generalize wr.drew = w33 at HO_282001 BK278 BK279 BK281 HB hx282_0 hx282_1 hHeld ⊢
       refine G.pu 0 (some 26) (G.fl 9 1) ?_
       refine G.pu 2 (some 28) (G.fl 9 5) ?_
       refine G.pu 5 (some 31) (G.fl 9 37) ?_
       refine G.pu 6 (some 32) (G.fl 9 101) ?_
       refine G.ta4 1 (some 27) (G.fl 9 103) ?_
       refine G.pu 3 (some 29) (G.fl 9 111) ?_
       refine G.ta4 4 (some 30) (G.fl 9 127) ?_
       refine one_ (i := 7) (N := some 33) (G.fl 9 255) rfl rfl (one_of HT_.out (c9_3)) (by decide) (fun K hK => ?_)
       refine goes_ Try.func68 (c9_3) rfl #[.int .i64 a1, .int .i64 a2] (by rfl) rfl rfl (G.ar) ?_
       with_reducible refine (spec_l1Tie.calls a1 a2 t283 t284 _ A18.out).mono ?_
       rintro e w34 ⟨rfl, hb⟩
       refine ⟨_, rfl, ?_⟩
       have n0_ := Aside0.mk (Kd.R_below (G.cR HO_282001.out) hb)
       have n1_ := Aside0.mk (blk_below (g := gb278) (o := .cells #[.int .i64 a0_0, .slice (some ad282) l0_1.length c0_1] 29 (0, 0)) (G.cb BK278.out) hb)
       have n2_ := Aside0.mk (blk_below (g := gb279) (o := .cells #[.int .i64 0, .slice none 0 0] 29 (0, 0)) (G.cb BK279.out) hb)
       have n3_ := Aside0.mk (blk_below (g := gb281) (o := .cells #[.int .i64 a0_0, u282001] 29 (0, 0)) (G.cb BK281.out) hb)
       have n4_ := Aside0.mk (below_step (G.cB HB.out) hb)
       clear HO_282001 BK278 BK279 BK281 HB
       revert n0_ n1_ n2_ n3_ n4_
       intro HO_282001 BK278 BK279 BK281 HB
       (try clear hb)
       (try clear hb2)
       (try clear hk)
       (try clear hi)
       refine hK.out _ _ ⟨(blk_cell BK278.out 0).trans rfl, (blk_cell BK278.out 1).trans rfl, ((HB.out.cell (World.block_lt_of_cell? w _ hw282_0)).trans hw282_0), ((HB.out.cell (World.block_lt_of_cell? w _ hw282_1)).trans hw282_1)⟩ (fun hHeld => ?_)
       clear hK K
       refine G.no (some 33) ?_
       refine G.pu 8 (some 34) (G.fl 9 511) ?_
       refine done_ (done_of HT_.out (c9_3)) ?_
       try go_wp2
       go_roundg k1
       case measure => have := HK1.out; omega
       case rel => exact ⟨(wrap64 (x9_1 + 1)), (x282001_1), (u282001), (by first | rfl | (simp; done) | (simp [*]; done)), H', ⟨by have := HK1.out; omega⟩, ⟨G.cR HO_282001.out⟩, ⟨G.cb BK278.out⟩, ⟨G.cb BK279.out⟩, ⟨G.cb BK281.out⟩, ⟨G.cB HB.out⟩⟩
     ·rw [if_neg c17] at H
      exact absurd H (by simp)
    ·rw [if_neg c16] at H
     have c16b0 : decide (x9_1 < (l0_1.length : Int)) = false := decide_eq_false c16
     clear c16
     simp only [Option.some.injEq, Prod.mk.injEq] at H
     obtain ⟨rfl, rfl, rfl⟩ := H
     have hnb35 := NB278_279.out
     have hnc35 := NB279_278.out
     have hnb36 := NB278_281.out
     have hnc36 := NB281_278.out
     have hcz37_0 : wr.cell? ⟨gb278, 0, none⟩ = some (.int .i64 a0_0) := (blk_cell BK278.out 0).trans rfl
     have hcz37_1 : wr.cell? ⟨gb278, 1, none⟩ = some (.slice A0_1 l0_1.length c0_1) := (blk_cell BK278.out 1).trans rfl
     have hfz37_0 := blk_frozen BK278.out 0
     have hfz37_1 := blk_frozen BK278.out 1
     have hnb38 := NB281_279.out
     have hnc38 := NB279_281.out
     have hcz39_0 : wr.cell? ⟨gb281, 0, none⟩ = some (.int .i64 a0_0) := (blk_cell BK281.out 0).trans rfl
     have hcz39_1 : wr.cell? ⟨gb281, 1, none⟩ = some (u282001) := (blk_cell BK281.out 1).trans rfl
     have hfz39_0 := blk_frozen BK281.out 0
     have hfz39_1 := blk_frozen BK281.out 1
     have hcz40_0 : wr.cell? ⟨gb279, 0, none⟩ = some (.int .i64 0) := (blk_cell BK279.out 0).trans rfl
     have hcz40_1 : wr.cell? ⟨gb279, 1, none⟩ = some (.slice none 0 0) := (blk_cell BK279.out 1).trans rfl
     have hfz40_0 := blk_frozen BK279.out 0
     have hfz40_1 := blk_frozen BK279.out 1
     obtain ⟨Ao41, co41, eo41⟩ := Kd.R_slice HO_282001.out
     subst eo41
     go_wp2
     refine bodyPost_ret (results_ct rfl _ _ gb279 29 #[.int .i64 a0_0, .slice Ao41 x282001_1.length co41] (0, 0) _ rfl (by (with_reducible repeat (first | refine blk_drewN ?_ _ | refine blk_drew ?_ | refine blk_alloc ?_ _)); refine blk_put (cs := #[.int .i64 a0_0, .slice none 0 0]) ?_ 1 _ rfl; (with_reducible repeat (first | refine blk_drewN ?_ _ | refine blk_drew ?_ | refine blk_alloc ?_ _)); refine blk_put (cs := #[.int .i64 0, .slice none 0 0]) ?_ 0 _ rfl; (with_reducible repeat (first | refine blk_drewN ?_ _ | refine blk_drew ?_ | refine blk_alloc ?_ _)); exact BK279.out) Try.underlying29 rfl (c9_3)) rfl ?_
     exact ⟨_, by first | rfl | (simp [errW_none, errW_some] <;> rfl) | (simp [*, errW_none, errW_some] <;> rfl), by (with_reducible repeat (first | apply Kd.R_alloc | apply Kd.R_drewN | apply Kd.R_drew)); exact Kd.R_mono (Kd.R_far (p := ⟨gb279, 1, none⟩) (Kd.R_far (p := ⟨gb279, 0, none⟩) (Kd.R_types HO_282001.out BK279.out (by decide)) (fun _ hk => hk.2) (.int .i64 a0_0)) (fun _ hk => hk.2) (.slice Ao41 x282001_1.length co41)) (fun _ hk => trivial), G.cB HB.out⟩
 ·replace c5 := Bool.eq_false_iff.mpr c5
  subst c5
  have H1 : (some (0, ([] : List (S63)), false)) = some (r1, r2, r3) := by rw [if_neg (show ¬ (false = true) by decide)] at H; exact H
  clear H
  have H := H1
  clear H1
  simp only [Option.some.injEq, Prod.mk.injEq] at H
  obtain ⟨rfl, rfl, rfl⟩ := H
  go_enter Try.func48, Try.ntmps48
  go_wp2_with (first | ((with_reducible refine gate_dst (N := 3) rfl ?_); refine G.be 3 #[.int .i64 a0_0, .slice A0_1 l0_1.length c0_1] 29 ?_; intro gb278 hg w42 hbox hb; have n0_ := Aside0.mk (below_step (G.cB HB.out) hb); have n1_ := Aside0.mk (hbox); have n2_ := Aside0.mk ((c9_2 : w.heap.size ≤ gb278)); have n3_ := Aside0.mk ((c9_2 : w.heap.size ≤ gb278)); clear HB; revert n0_ n1_ n2_ n3_; intro HB BK278 GW278 GE278; clear hb hbox hg) | ((with_reducible refine gate_dst (N := 6) rfl ?_); refine G.be 6 #[.int .i64 0, .slice none 0 0] 29 ?_; intro gb279 hg w43 hbox hb; have n0_ := Aside0.mk (blk_below (g := gb278) (o := .cells #[.int .i64 a0_0, .slice A0_1 l0_1.length c0_1] 29 (0, 0)) (G.cb BK278.out) hb); have n1_ := Aside0.mk (below_step (G.cB HB.out) hb); have n2_ := Aside0.mk (hbox); have n3_ := Aside0.mk ((c9_2 : w.heap.size ≤ gb279)); have n4_ := Aside0.mk ((c9_2 : w.heap.size ≤ gb279)); have n5_ := Aside0.mk ((c9_0 : gb278 ≠ gb279)); have n6_ := Aside0.mk ((c9_1 : gb279 ≠ gb278)); clear BK278 HB; revert n0_ n1_ n2_ n3_ n4_ n5_ n6_; intro BK278 HB BK279 GW279 GE279 NB278_279 NB279_278; clear hb hbox hg; have hnb44 := NB278_279.out; have hnc44 := NB279_278.out; have hcz45_0 : w43.cell? ⟨gb278, 0, none⟩ = some (.int .i64 a0_0) := (blk_cell BK278.out 0).trans rfl; have hcz45_1 : w43.cell? ⟨gb278, 1, none⟩ = some (.slice A0_1 l0_1.length c0_1) := (blk_cell BK278.out 1).trans rfl; have hfz45_0 := blk_frozen BK278.out 0; have hfz45_1 := blk_frozen BK278.out 1) | ((with_reducible refine gate_callee (f := 67) rfl ?_); refine goesL_ (some 13) rfl rfl Try.func67 (c9_3) rfl #[.agg #[.int .i64 a0_0, .slice A0_1 l0_1.length c0_1], .int .i64 a1, .int .i64 a2] rfl (G.ar) ?_; (with_reducible refine (spec_NetHas.calls k a0_0 _ _ l0_1 a1 a2 false _ ?side1 ?side2 A4.out).mono ?_); (case side1 => repeat (first | exact (Kd.C_below HR0_1.out HB.out) | (with_reducible refine Kd.C_alloc ?_ _) | (with_reducible refine Kd.C_drewN ?_ _) | (with_reducible refine Kd.C_drew ?_))); (case side2 => exact HC0_1.out); rintro e w46 ⟨rfl, hb⟩; refine ⟨_, rfl, ?_⟩; have n0_ := Aside0.mk (blk_below (g := gb278) (o := .cells #[.int .i64 a0_0, .slice A0_1 l0_1.length c0_1] 29 (0, 0)) (G.cb BK278.out) hb); have n1_ := Aside0.mk (blk_below (g := gb279) (o := .cells #[.int .i64 0, .slice none 0 0] 29 (0, 0)) (G.cb BK279.out) hb); have n2_ := Aside0.mk (below_step (G.cB HB.out) hb); clear BK278 BK279 HB; revert n0_ n1_ n2_; intro BK278 BK279 HB; (try clear hb); (try clear hb2); (try clear hk); (try clear hi); have hcz47_0 : w46.cell? ⟨gb279, 0, none⟩ = some (.int .i64 0) := (blk_cell BK279.out 0).trans rfl; have hcz47_1 : w46.cell? ⟨gb279, 1, none⟩ = some (.slice none 0 0) := (blk_cell BK279.out 1).trans rfl; have hfz47_0 := blk_frozen BK279.out 0; have hfz47_1 := blk_frozen BK279.out 1))
  refine bodyPost_ret (results_ct rfl _ _ gb279 29 #[.int .i64 0, .slice none 0 0] (0, 0) _ rfl (by (with_reducible repeat (first | refine blk_drewN ?_ _ | refine blk_drew ?_ | refine blk_alloc ?_ _)); refine blk_put (cs := #[.int .i64 0, .slice none 0 0]) ?_ 1 _ rfl; (with_reducible repeat (first | refine blk_drewN ?_ _ | refine blk_drew ?_ | refine blk_alloc ?_ _)); refine blk_put (cs := #[.int .i64 0, .slice none 0 0]) ?_ 0 _ rfl; (with_reducible repeat (first | refine blk_drewN ?_ _ | refine blk_drew ?_ | refine blk_alloc ?_ _)); exact BK279.out) Try.underlying29 rfl (c9_3)) rfl ?_
  exact ⟨_, by first | rfl | (simp [errW_none, errW_some] <;> rfl) | (simp [*, errW_none, errW_some] <;> rfl), by first | exact Kd.R_nil _ _ _ _ _ | exact Kd.N_nil _ _ _ _ _ | exact Kd.V_nil _ _ _ _ _ | exact Kd.Q_nil _ _ _ _ _ | exact Kd.S_nil _ _ _ _ _, G.cB HB.out⟩

end Go.Proofs.Ytbkdpnfjcnkoeaa.P
