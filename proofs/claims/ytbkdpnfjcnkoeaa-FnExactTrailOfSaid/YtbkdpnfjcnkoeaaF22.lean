-- Printed by a program of this session (mp.py, over the kit's print). Not trusted: Lean checks it.
import Derived.Test.YtbkdpnfjcnkoeaaF0
import Derived.Test.YtbkdpnfjcnkoeaaF7
import Derived.Test.YtbkdpnfjcnkoeaaF16
namespace Go.Proofs.Ytbkdpnfjcnkoeaa.P
open Go.RowKit Go.Proofs.YtbkdpnfjcnkoeaaW.PrintWords Go.Proofs.YtbkdpnfjcnkoeaaW.PrintLast Go.Proofs.YtbkdpnfjcnkoeaaW.PrintMore
attribute [local go_sem] max2_int min2_int max_two min_two max_three min_three max_four min_four   -- for this text's walks alone
set_option linter.unusedVariables false
set_option linter.unusedSimpArgs false

theorem c22_0 {p : Prop} (h : p := by (with_reducible repeat (first | refine blk_drewN ?_ _ | refine blk_drew ?_ | refine blk_alloc ?_ _)); refine blk_put (cs := #[.int .i64 t430, .slice none 0 0]) ?_ 1 _ rfl; (with_reducible repeat (first | refine blk_drewN ?_ _ | refine blk_drew ?_ | refine blk_alloc ?_ _)); refine blk_put (cs := #[.int .i64 0, .slice none 0 0]) ?_ 0 _ rfl; (with_reducible repeat (first | refine blk_drewN ?_ _ | refine blk_drew ?_ | refine blk_alloc ?_ _)); exact BK434.out) : p := h
theorem c22_1 {p : Prop} (h : p := by (with_reducible repeat (first | refine blk_drewN ?_ _ | refine blk_drew ?_ | refine blk_alloc ?_ _)); refine blk_far ?_ NB414_422.out _; (with_reducible repeat (first | refine blk_drewN ?_ _ | refine blk_drew ?_ | refine blk_alloc ?_ _)); refine blk_far ?_ NB414_422.out _; (with_reducible repeat (first | refine blk_drewN ?_ _ | refine blk_drew ?_ | refine blk_alloc ?_ _)); exact BK414.out) : p := h
theorem c22_2 {p : Prop} (h : p := by (with_reducible repeat (first | refine blk_drewN ?_ _ | refine blk_drew ?_ | refine blk_alloc ?_ _)); refine blk_far ?_ NB414_434.out _; (with_reducible repeat (first | refine blk_drewN ?_ _ | refine blk_drew ?_ | refine blk_alloc ?_ _)); refine blk_far ?_ NB414_434.out _; (with_reducible repeat (first | refine blk_drewN ?_ _ | refine blk_drew ?_ | refine blk_alloc ?_ _)); exact BK414.out) : p := h
theorem c22_3 {p : Prop} (h : p := by (with_reducible repeat (first | refine blk_drewN ?_ _ | refine blk_drew ?_ | refine blk_alloc ?_ _)); refine blk_far ?_ NB422_434.out _; (with_reducible repeat (first | refine blk_drewN ?_ _ | refine blk_drew ?_ | refine blk_alloc ?_ _)); refine blk_far ?_ NB422_434.out _; (with_reducible repeat (first | refine blk_drewN ?_ _ | refine blk_drew ?_ | refine blk_alloc ?_ _)); exact BK422.out) : p := h
theorem c22_4 {p : Prop} (h : p := by (with_reducible repeat (first | apply Kd.V_alloc | apply Kd.V_drewN | apply Kd.V_drew)); exact Kd.V_mono (Kd.V_far (p := ⟨gb422, 1, none⟩) (Kd.V_far (p := ⟨gb422, 0, none⟩) (Kd.V_mono HO0_1.out (fun k_ hk => (⟨hk, hk.2⟩ : _ ∧ k_ ≠ gb422))) (fun _ hk => hk.2) (.int .i64 a0_0)) (fun _ hk => hk.2) (.slice A0_1 l0_1.length c0_1)) (fun _ hk => ⟨hk.1.1.1.1, ⟨hk.1.1.2, ⟨hk.1.1.1.2, hk.1.2⟩⟩⟩)) : p := h
theorem c22_5 {p : Prop} (h : p := by (with_reducible repeat (first | apply Kd.R_alloc | apply Kd.R_drewN | apply Kd.R_drew)); exact (Kd.R_mono (Kd.R_far (p := ⟨gb434, 1, none⟩) (Kd.R_far (p := ⟨gb434, 0, none⟩) (Kd.R_types HO433.out BK434.out (by decide)) (fun _ hk => hk.2) (.int .i64 t430)) (fun _ hk => hk.2) (.slice Ao44 t431.length co44)) (fun _ h_ => h_.1))) : p := h
theorem c22_6 {p : Prop} (h : p := by (with_reducible repeat (first | apply Kd.R_alloc | apply Kd.R_drewN | apply Kd.R_drew)); exact (Kd.R_mono (Kd.R_far (p := ⟨gb434, 1, none⟩) (Kd.R_far (p := ⟨gb434, 0, none⟩) (Kd.R_types HO433.out BK434.out (by decide)) (fun _ hk => hk.2) (.int .i64 t430)) (fun _ hk => hk.2) (.slice Ao66 t431.length co66)) (fun _ h_ => h_.1))) : p := h
theorem c22_7 {p : Prop} (h : p := by (with_reducible repeat (first | apply Kd.V_alloc | apply Kd.V_drewN | apply Kd.V_drew)); exact Kd.V_mono HO_415001.out (fun _ hk => ⟨hk.1.1.1.1, ⟨hk.1.1.2, ⟨hk.1.2, ⟨hk.1.1.1.2.1, ⟨hk.1.1.1.2.2.1, ⟨hk.1.1.1.2.2.2, hk.2⟩⟩⟩⟩⟩⟩)) : p := h
theorem c22_8 {p : Prop} (h : p := by (with_reducible repeat (first | apply Kd.V_alloc | apply Kd.V_drewN | apply Kd.V_drew)); exact Kd.V_mono HO_423001.out (fun _ hk => ⟨hk.1.1.1.1, ⟨hk.1.1.2, ⟨hk.1.2, ⟨hk.1.1.1.2.1, ⟨hk.1.1.1.2.2.1, ⟨hk.1.1.1.2.2.2, hk.2⟩⟩⟩⟩⟩⟩)) : p := h
theorem c22_9 {p : Prop} (h : p := by (with_reducible repeat (first | apply Kd.V_alloc | apply Kd.V_drewN | apply Kd.V_drew)); exact Kd.V_mono HO_415001.out (fun _ hk => ⟨hk.1.1.1.1, ⟨hk.1.1.2, ⟨hk.2, ⟨hk.1.1.1.2.1, ⟨hk.1.1.1.2.2.1, ⟨hk.1.1.1.2.2.2, hk.1.2⟩⟩⟩⟩⟩⟩)) : p := h
theorem c22_10 {p : Prop} (h : p := by (with_reducible repeat (first | apply Kd.V_alloc | apply Kd.V_drewN | apply Kd.V_drew)); exact Kd.V_mono HO_423001.out (fun _ hk => ⟨hk.1.1.1.1, ⟨hk.1.1.2, ⟨hk.2, ⟨hk.1.1.1.2.1, ⟨hk.1.1.1.2.2.1, ⟨hk.1.1.1.2.2.2, hk.1.2⟩⟩⟩⟩⟩⟩)) : p := h
theorem c22_11 {p : Prop} (h : p := by (with_reducible repeat (first | apply Kd.V_alloc | apply Kd.V_drewN | apply Kd.V_drew)); exact Kd.V_mono HO_415001.out (fun _ hk => ⟨hk.1.1.1.1, ⟨hk.1.2, ⟨hk.2, ⟨hk.1.1.1.2.1, ⟨hk.1.1.1.2.2.1, ⟨hk.1.1.1.2.2.2, hk.1.1.2⟩⟩⟩⟩⟩⟩)) : p := h
theorem c22_12 {p : Prop} (h : p := by (with_reducible repeat (first | apply Kd.V_alloc | apply Kd.V_drewN | apply Kd.V_drew)); exact Kd.V_mono HO_423001.out (fun _ hk => ⟨hk.1.1.1.1, ⟨hk.1.2, ⟨hk.2, ⟨hk.1.1.1.2.1, ⟨hk.1.1.1.2.2.1, ⟨hk.1.1.1.2.2.2, hk.1.1.2⟩⟩⟩⟩⟩⟩)) : p := h
theorem c22_13 {p : Prop} (h : p := by (try simp only [List.map_toArray, List.map_cons, List.map_nil]); first | done | (simp only [hji15]; rfl) | rfl | (simp only [List.length_drop, List.length_take]; rfl)) : p := h
theorem c22_14 {p : Prop} (h : p := by rw [hg]; exact Nat.ne_of_lt (blk_lt (g := gb422) (o := .cells #[.int .i64 x423000_2, .slice Ao33 x423001_2.length co33] 29 (0, 0)) (G.cb BK422.out))) : p := h
theorem c22_15 {p : Prop} (h : p := by rw [hg]; exact Nat.ne_of_gt (blk_lt (g := gb422) (o := .cells #[.int .i64 x423000_2, .slice Ao33 x423001_2.length co33] 29 (0, 0)) (G.cb BK422.out))) : p := h
theorem c22_16 {p : Prop} (h : p := by rw [hg]; exact Nat.ne_of_lt (blk_lt (g := gb422) (o := .cells #[.int .i64 x423000_2, .slice Ao55 x423001_2.length co55] 29 (0, 0)) (G.cb BK422.out))) : p := h
theorem c22_17 {p : Prop} (h : p := by rw [hg]; exact Nat.ne_of_gt (blk_lt (g := gb422) (o := .cells #[.int .i64 x423000_2, .slice Ao55 x423001_2.length co55] 29 (0, 0)) (G.cb BK422.out))) : p := h
theorem c22_18 {p : Prop} (h : p := by (with_reducible repeat (first | apply Kd.R_alloc | apply Kd.R_drewN | apply Kd.R_drew)); exact Kd.R_mono HO429.out (fun _ hk => ⟨hk.1.1, hk.2⟩)) : p := h
theorem c22_19 {p : Prop} (h : p := by (with_reducible repeat (first | apply Kd.R_alloc | apply Kd.R_drewN | apply Kd.R_drew)); exact Kd.R_mono HO433.out (fun _ hk => ⟨hk.1.1, hk.2⟩)) : p := h
theorem c22_20 {p : Prop} (h : p := by rw [hg]; exact Nat.ne_of_lt (blk_lt (g := gb414) (o := .cells #[.int .i64 a0_0, .slice A0_1 l0_1.length c0_1] 29 (0, 0)) (G.cb BK414.out))) : p := h
theorem c22_21 {p : Prop} (h : p := by rw [hg]; exact Nat.ne_of_gt (blk_lt (g := gb414) (o := .cells #[.int .i64 a0_0, .slice A0_1 l0_1.length c0_1] 29 (0, 0)) (G.cb BK414.out))) : p := h
theorem c22_22 {p : Prop} (h : p := by rw [hg]; exact (below_size (G.cB HB.out))) : p := h
theorem c22_23 {p : Prop} (h : p := by kernel_rfl) : p := h
theorem c22_24 {p : Prop} (h : p := by decide) : p := h
/-! ### impl_TrailOf: function 24 -/
mutual
def impl_TrailOf.l0 : Nat → List Int → Int → List (S63) → Int → List (S63) → Option (List Int × Bool)
 | 0, _, _, _, _, _ => none
 | k + 1, x6, x415000, x415001, x423000, x423001 => if (x423001.length : Int) > 0 then (if 0 ≤ (wrap64 ((x6.length : Int) - 1)) then (if (wrap64 ((x6.length : Int) - 1)) < (x6.length : Int) then (impl_TrailOf.l1 k x6 (rd x6 (wrap64 ((x6.length : Int) - 1))) x415000 0 x415000 x415001 x423000 x423001) else (none)) else (none)) else (some (x6, true))
def impl_TrailOf.l1 : Nat → List Int → Int → Int → Int → Int → List (S63) → Int → List (S63) → Option (List Int × Bool)
 | 0, _, _, _, _, _, _, _, _ => none
 | k + 1, x6, x8, x30, x31, x415000, x415001, x423000, x423001 => if x31 < x30 then ((impl_Net_has.f k x423000 x423001 x8 x31).bind fun t424 => (if t424 = true then ((impl_tie.f x8 x31).bind fun bt425 => ((impl_Net_less.f k x423000 x423001 (([(⟨bt425.1, bt425.2⟩ : S63)] : List (S63)))).bind fun bt430 => ((impl_Net_trail.f k bt430.1 bt430.2 x31).bind fun t435 => (if t435 = true then (if x6.length < 17592186044416 then (impl_TrailOf.l0 k (x6 ++ [x31]) x415000 x415001 bt430.1 bt430.2) else (none)) else (impl_TrailOf.l1 k x6 x8 x30 (wrap64 (x31 + 1)) x415000 x415001 x423000 x423001))))) else (impl_TrailOf.l1 k x6 x8 x30 (wrap64 (x31 + 1)) x415000 x415001 x423000 x423001))) else (impl_TrailOf.l0 k x6 x415000 x415001 x423000 x423001)
end
def impl_TrailOf.f (k : Nat) (a0_0 : Int) (l0_1 : List (S63)) (a1 : Int) : Option (List Int × Bool) := (impl_TrailCan.f k a0_0 l0_1 a1).bind fun t415 => (if t415 = true then (impl_TrailOf.l0 k (([a1] : List Int)) a0_0 l0_1 a0_0 l0_1) else (some ((([] : List Int)), false)))
theorem impl_TrailOf.mono_l : ∀ k, (∀ y0 y1 y2 y3 y4, LeO (impl_TrailOf.l0 k y0 y1 y2 y3 y4) (impl_TrailOf.l0 (k + 1) y0 y1 y2 y3 y4)) ∧ (∀ y0 y1 y2 y3 y4 y5 y6 y7, LeO (impl_TrailOf.l1 k y0 y1 y2 y3 y4 y5 y6 y7) (impl_TrailOf.l1 (k + 1) y0 y1 y2 y3 y4 y5 y6 y7))
 | 0 => ⟨fun _ _ _ _ _ r h => by simp [impl_TrailOf.l0] at h, fun _ _ _ _ _ _ _ _ r h => by simp [impl_TrailOf.l1] at h⟩
 | k + 1 => by
  obtain ⟨ih0, ih1⟩ := impl_TrailOf.mono_l k
  refine ⟨?_, ?_⟩
  ·intro y0 y1 y2 y3 y4
   unfold impl_TrailOf.l0
   repeat' first
   | (with_reducible exact ih0 _ _ _ _ _)
   | (with_reducible exact ih1 _ _ _ _ _ _ _ _)
   | (with_reducible exact impl_Net_has.mono _ _ _ _ _)
   | (with_reducible exact impl_Net_less.mono _ _ _ _)
   | (with_reducible exact impl_Net_trail.mono _ _ _ _)
   | (with_reducible exact impl_TrailCan.mono _ _ _ _)
   | (with_reducible exact LeO.refl _)
   | (with_reducible exact LeO.none _)
   | (with_reducible refine LeO.ite ?_ ?_)
   | (with_reducible refine LeO.bind ?_ (fun _ => ?_))
   | exact ih0 _ _ _ _ _
   | exact ih1 _ _ _ _ _ _ _ _
   | exact impl_Net_has.mono _ _ _ _ _
   | exact impl_Net_less.mono _ _ _ _
   | exact impl_Net_trail.mono _ _ _ _
   | exact impl_TrailCan.mono _ _ _ _
   | exact LeO.none _
   | refine LeO.ite ?_ ?_
   | refine LeO.bind ?_ (fun _ => ?_)
  ·intro y0 y1 y2 y3 y4 y5 y6 y7
   unfold impl_TrailOf.l1
   repeat' first
   | (with_reducible exact ih0 _ _ _ _ _)
   | (with_reducible exact ih1 _ _ _ _ _ _ _ _)
   | (with_reducible exact impl_Net_has.mono _ _ _ _ _)
   | (with_reducible exact impl_Net_less.mono _ _ _ _)
   | (with_reducible exact impl_Net_trail.mono _ _ _ _)
   | (with_reducible exact impl_TrailCan.mono _ _ _ _)
   | (with_reducible exact LeO.refl _)
   | (with_reducible exact LeO.none _)
   | (with_reducible refine LeO.ite ?_ ?_)
   | (with_reducible refine LeO.bind ?_ (fun _ => ?_))
   | exact ih0 _ _ _ _ _
   | exact ih1 _ _ _ _ _ _ _ _
   | exact impl_Net_has.mono _ _ _ _ _
   | exact impl_Net_less.mono _ _ _ _
   | exact impl_Net_trail.mono _ _ _ _
   | exact impl_TrailCan.mono _ _ _ _
   | exact LeO.none _
   | refine LeO.ite ?_ ?_
   | refine LeO.bind ?_ (fun _ => ?_)
theorem impl_TrailOf.mono : ∀ a0 a1 a2 k, LeO (impl_TrailOf.f k a0 a1 a2) (impl_TrailOf.f (k + 1) a0 a1 a2) := by
 intro a0 a1 a2 k
 obtain ⟨ih0, ih1⟩ := impl_TrailOf.mono_l k
 unfold impl_TrailOf.f
 repeat' first
   | (with_reducible exact ih0 _ _ _ _ _)
   | (with_reducible exact ih1 _ _ _ _ _ _ _ _)
   | (with_reducible exact impl_Net_has.mono _ _ _ _ _)
   | (with_reducible exact impl_Net_less.mono _ _ _ _)
   | (with_reducible exact impl_Net_trail.mono _ _ _ _)
   | (with_reducible exact impl_TrailCan.mono _ _ _ _)
   | (with_reducible exact LeO.refl _)
   | (with_reducible exact LeO.none _)
   | (with_reducible refine LeO.ite ?_ ?_)
   | (with_reducible refine LeO.bind ?_ (fun _ => ?_))
   | exact ih0 _ _ _ _ _
   | exact ih1 _ _ _ _ _ _ _ _
   | exact impl_Net_has.mono _ _ _ _ _
   | exact impl_Net_less.mono _ _ _ _
   | exact impl_Net_trail.mono _ _ _ _
   | exact impl_TrailCan.mono _ _ _ _
   | exact LeO.none _
   | refine LeO.ite ?_ ?_
   | refine LeO.bind ?_ (fun _ => ?_)
def impl_TrailOf.T11 : Bool × List (List Nat × List Nat) := (true, [([], []), ([], []), ([], []), ([1, 2], [1, 2]), ([3], [3]), ([0, 4, 3], [0, 4]), ([], []), ([6, 5, 5, 0, 1, 2, 3, 4, 5, 6], [5, 6])])
def impl_TrailOf.B11 : List Nat := [0, 0, 0, 6, 14, 31, 0, 127]
theorem impl_TrailOf.tab11 : rtab .any (opsOf Try.f24 11) = impl_TrailOf.T11 := by kernel_rfl
theorem impl_TrailOf.bits11 : waitsOk impl_TrailOf.T11.2 impl_TrailOf.B11 = true := by kernel_rfl
set_option maxHeartbeats 8000000 in
set_option maxRecDepth 100000 in
theorem impl_TrailOf.calls (k : Nat) (a0_0 : Int) (P0_1_ : Nat → Prop) (A0_1 : Option Addr) (c0_1 : Nat) (l0_1 : List (S63)) (a1 : Int) (r1 : List Int) (r2 : Bool) (w : World) (hs0_1 : Kd.V k63 63 w w.heap.size (fun k_ => P0_1_ k_) (.slice A0_1 l0_1.length c0_1) l0_1) (h : impl_TrailOf.f k a0_0 l0_1 a1 = some (r1, r2)) :
  Calls Try.prog 24 #[.agg #[.int .i64 a0_0, .slice A0_1 l0_1.length c0_1], .int .i64 a1] w fun e w' => ∃ v0_ : Value, e = .returned (.tuple #[v0_, .bool r2]) ∧ Kd.R (Kd.int .i64) 3 w' w.heap.size (fun k_ => (w.heap.size ≤ k_)) v0_ r1 ∧ Below w.heap.size w w' := by
 have hu29 := Try.underlying29
 have HO0_1 := Aside0.mk (show Kd.V k63 63 w w.heap.size (fun k_ => (P0_1_ k_ ∨ w.heap.size ≤ k_)) (.slice A0_1 l0_1.length c0_1) l0_1 from Kd.V_mono hs0_1 (fun k_ hk => .inl hk))
 have HB := Aside0.mk (Below.refl w.heap.size w)
 have H : ((impl_TrailCan.f k a0_0 l0_1 a1).bind fun t415 => (if t415 = true then (impl_TrailOf.l0 k (([a1] : List Int)) a0_0 l0_1 a0_0 l0_1) else (some ((([] : List Int)), false)))) = some (r1, r2) := h
 clear h
 replace H := Option.bind_eq_some_iff.mp H
 obtain ⟨t415, A30, H⟩ := H
 replace H : (if t415 = true then (impl_TrailOf.l0 k (([a1] : List Int)) a0_0 l0_1 a0_0 l0_1) else (some ((([] : List Int)), false))) = some (r1, r2) := H
 have A3 := Aside0.mk A30
 clear A30
 by_cases c4 : t415 = true
 ·subst c4
  have H1 : (impl_TrailOf.l0 k (([a1] : List Int)) a0_0 l0_1 a0_0 l0_1) = some (r1, r2) := by rw [if_pos rfl] at H; exact H
  clear H
  have H := H1
  clear H1
  obtain ⟨y419, hy419⟩ : ∃ y_ : List Int, y_ = (([a1] : List Int)) := ⟨_, rfl⟩
  replace H : (impl_TrailOf.l0 k y419 a0_0 l0_1 a0_0 l0_1) = some (r1, r2) := by first | (rw [hy419]; with_reducible exact H) | (have H2_ := (Option.bind_some _ _).symm.trans H; rw [hy419]; with_reducible exact H2_) | (have H2_ := (Option.bind_some _ _).symm.trans H; with_reducible exact H2_) | with_reducible exact H | (rw [hy419]; exact H) | exact H
  have Ny419 := Aside0.mk hy419
  clear hy419
  have H' := Aside0.mk H
  clear H
  go_enter Try.func24, Try.ntmps24
  go_wp2_with (first | ((with_reducible refine gate_dst (N := 2) rfl ?_); refine G.be 2 #[.int .i64 a0_0, .slice A0_1 l0_1.length c0_1] 29 ?_; intro gb414 hg w5 hbox hb; have n0_ := Aside0.mk (Kd.V_below (Kd.V_elderB (G.cV HO0_1.out) gb414 (Nat.le_of_eq hg.symm)) hb); have n1_ := Aside0.mk (below_step (G.cB HB.out) hb); have n2_ := Aside0.mk (hbox); have n3_ := Aside0.mk ((c22_22 : w.heap.size ≤ gb414)); have n4_ := Aside0.mk ((c22_22 : w.heap.size ≤ gb414)); clear HO0_1 HB; revert n0_ n1_ n2_ n3_ n4_; intro HO0_1 HB BK414 GW414 GE414; clear hb hbox hg; have hcz6_0 : w5.cell? ⟨gb414, 0, none⟩ = some (.int .i64 a0_0) := (blk_cell BK414.out 0).trans rfl; have hcz6_1 : w5.cell? ⟨gb414, 1, none⟩ = some (.slice A0_1 l0_1.length c0_1) := (blk_cell BK414.out 1).trans rfl; have hfz6_0 := blk_frozen BK414.out 0; have hfz6_1 := blk_frozen BK414.out 1) | ((with_reducible refine gate_callee (f := 17) rfl ?_); refine goesL_ (some 13) rfl rfl Try.func17 (c22_23) rfl #[.agg #[.int .i64 a0_0, .slice A0_1 l0_1.length c0_1], .int .i64 a1] rfl (G.ar) ?_; (with_reducible refine (impl_TrailCan.calls k a0_0 _ _ l0_1 a1 true _ ?side1 ?side2 A3.out).mono ?_); (case side1 => repeat (first | exact (Kd.V_reads' HO0_1.out).2.2 | (with_reducible refine Kd.C_alloc ?_ _) | (with_reducible refine Kd.C_drewN ?_ _) | (with_reducible refine Kd.C_drew ?_))); (case side2 => exact (Kd.V_reads' HO0_1.out).2.1); rintro e w7 ⟨rfl, hb⟩; refine ⟨_, rfl, ?_⟩; have n0_ := Aside0.mk (Kd.V_below (G.cV HO0_1.out) hb); have n1_ := Aside0.mk (blk_below (g := gb414) (o := .cells #[.int .i64 a0_0, .slice A0_1 l0_1.length c0_1] 29 (0, 0)) (G.cb BK414.out) hb); have n2_ := Aside0.mk (below_step (G.cB HB.out) hb); clear HO0_1 BK414 HB; revert n0_ n1_ n2_; intro HO0_1 BK414 HB; (try clear hb); (try clear hb2); (try clear hk); (try clear hi)) | ((with_reducible refine gate_dst (N := 17) rfl ?_); refine Kd.R_lit (Kd.int .i64) _ 3 ?hg (N := 17) ?hd (xs := ([a1] : List Int)) (inner := [.int .i64 a1]) (ok := fun _ => True) (okp := fun _ => True) ?hr ?hp (fun _ hk => hk) trivial (Below.refl _ _) (Nat.le_refl _) (by simp) ?_; (case hd => rfl); (case hg => rfl); (case hr => first | (go_simp; done) | (go_simp; rfl)); (case hp => exact (Reps.one (show Kd.M (Kd.int .i64) _ _ _ a1 [.int .i64 a1] from rfl) (Reps.none _ _))); intro v420 w8 ho9 hb hg_ hnew_; clear hg_ hnew_; (first | rw [← Ny419.out] at ho9 | (simp only [Int.reduceToNat] at ho9; rw [← Ny419.out] at ho9)); have n0_ := Aside0.mk (Kd.V_elder' (G.cV HO0_1.out) (Kd.R_base ho9) hb); have n1_ := Aside0.mk (Kd.R_lower (Kd.R_newM (M := fun k_ => (w.heap.size ≤ k_)) ho9 (below_size (G.cB HB.out)) (fun k_ h_ => h_)) (below_size (G.cB HB.out))); have n2_ := Aside0.mk (blk_below (g := gb414) (o := .cells #[.int .i64 a0_0, .slice A0_1 l0_1.length c0_1] 29 (0, 0)) (G.cb BK414.out) hb); have n3_ := Aside0.mk (below_step (G.cB HB.out) hb); clear HO0_1 BK414 HB; revert n0_ n1_ n2_ n3_; intro HO0_1 HO421 BK414 HB; clear hb ho9; have hcz10_0 : w8.cell? ⟨gb414, 0, none⟩ = some (.int .i64 a0_0) := (blk_cell BK414.out 0).trans rfl; have hcz10_1 : w8.cell? ⟨gb414, 1, none⟩ = some (.slice A0_1 l0_1.length c0_1) := (blk_cell BK414.out 1).trans rfl; have hfz10_0 := blk_frozen BK414.out 0; have hfz10_1 := blk_frozen BK414.out 1) | ((with_reducible refine gate_dst (N := 7) rfl ?_); refine G.be 7 #[.int .i64 0, .slice none 0 0] 29 ?_; intro gb422 hg w11 hbox hb; have n0_ := Aside0.mk (Kd.V_below (Kd.V_elderB (G.cV HO0_1.out) gb422 (Nat.le_of_eq hg.symm)) hb); have n1_ := Aside0.mk (Kd.R_below (G.cR HO421.out) hb); have n2_ := Aside0.mk (blk_below (g := gb414) (o := .cells #[.int .i64 a0_0, .slice A0_1 l0_1.length c0_1] 29 (0, 0)) (G.cb BK414.out) hb); have n3_ := Aside0.mk (below_step (G.cB HB.out) hb); have n4_ := Aside0.mk (hbox); have n5_ := Aside0.mk ((c22_22 : w.heap.size ≤ gb422)); have n6_ := Aside0.mk ((c22_22 : w.heap.size ≤ gb422)); have n7_ := Aside0.mk ((c22_20 : gb414 ≠ gb422)); have n8_ := Aside0.mk ((c22_21 : gb422 ≠ gb414)); clear HO0_1 HO421 BK414 HB; revert n0_ n1_ n2_ n3_ n4_ n5_ n6_ n7_ n8_; intro HO0_1 HO421 BK414 HB BK422 GW422 GE422 NB414_422 NB422_414; clear hb hbox hg; have hnb12 := NB422_414.out; have hnc12 := NB414_422.out; have hcz13_0 : w11.cell? ⟨gb422, 0, none⟩ = some (.int .i64 0) := (blk_cell BK422.out 0).trans rfl; have hcz13_1 : w11.cell? ⟨gb422, 1, none⟩ = some (.slice none 0 0) := (blk_cell BK422.out 1).trans rfl; have hfz13_0 := blk_frozen BK422.out 0; have hfz13_1 := blk_frozen BK422.out 1))
  go_loopg [6] k (fun kq v6 w' => ∃ (x6_1 : List Int) (x423000_1 : Int) (x423001_1 : List (S63)) (u423001 : Value), Aside0 (impl_TrailOf.l0 kq x6_1 a0_0 l0_1 x423000_1 x423001_1 = some (r1, r2)) ∧ Aside0 (kq ≤ k) ∧ Aside0 (Kd.R (Kd.int .i64) 3 w' w.heap.size (fun k_ => (w.heap.size ≤ k_)) v6 x6_1) ∧ Aside0 (Kd.V k63 63 w' w.heap.size (fun k_ => (P0_1_ k_ ∨ w.heap.size ≤ k_) ∧ some k_ ≠ (v6 : Value).ownBlock ∧ k_ ≠ gb414 ∧ k_ ≠ gb422) (.slice A0_1 l0_1.length c0_1) l0_1) ∧ Aside0 (Kd.V k63 63 w' w.heap.size (fun k_ => (P0_1_ k_ ∨ w.heap.size ≤ k_) ∧ some k_ ≠ (v6 : Value).ownBlock ∧ k_ ≠ gb414 ∧ k_ ≠ gb422) u423001 x423001_1) ∧ Aside0 (w'.heap[gb414]? = some (.cells #[.int .i64 a0_0, (.slice A0_1 l0_1.length c0_1)] 29 (0, 0))) ∧ Aside0 (w'.heap[gb422]? = some (.cells #[.int .i64 x423000_1, u423001] 29 (0, 0))) ∧ Aside0 (Below w.heap.size w w'))
  case atStart => exact ⟨(y419), (a0_0), (l0_1), (.slice A0_1 l0_1.length c0_1), H', ⟨Nat.le_refl _⟩, ⟨by (with_reducible repeat (first | apply Kd.R_alloc | apply Kd.R_drewN | apply Kd.R_drew)); exact Kd.R_mono (Kd.R_far (p := ⟨gb422, 1, none⟩) (Kd.R_far (p := ⟨gb422, 0, none⟩) (Kd.R_types HO421.out BK422.out (c22_24)) (fun _ hk => hk.2) (.int .i64 a0_0)) (fun _ hk => hk.2) (.slice A0_1 l0_1.length c0_1)) (fun _ hk => hk.1.1)⟩, ⟨c22_4⟩, ⟨c22_4⟩, ⟨c22_1⟩, ⟨by (with_reducible repeat (first | refine blk_drewN ?_ _ | refine blk_drew ?_ | refine blk_alloc ?_ _)); refine blk_put (cs := #[.int .i64 a0_0, .slice none 0 0]) ?_ 1 _ rfl; (with_reducible repeat (first | refine blk_drewN ?_ _ | refine blk_drew ?_ | refine blk_alloc ?_ _)); refine blk_put (cs := #[.int .i64 0, .slice none 0 0]) ?_ 0 _ rfl; (with_reducible repeat (first | refine blk_drewN ?_ _ | refine blk_drew ?_ | refine blk_alloc ?_ _)); exact BK422.out⟩, ⟨G.cB HB.out⟩⟩
  case round =>
   clear H'
   (try clear c1); (try clear c2); (try clear p2); (try clear c4); (try clear c12); (try clear hcz10_0); (try clear hcz10_1); (try clear hcz13_0); (try clear hcz13_1); (try clear hcz6_0); (try clear hcz6_1); (try clear hfz10_0); (try clear hfz10_1); (try clear hfz13_0); (try clear hfz13_1); (try clear hfz6_0); (try clear hfz6_1)
   obtain ⟨x6_1, x423000_1, x423001_1, u423001, HA, HK1, HO_6, HO_415001, HO_423001, BK414, BK422, HB⟩ := hrel
   cases gk with
   | zero => exact absurd HA.out (by simp [impl_TrailOf.l0])
   | succ k1 =>
    have H := HA.out
    clear HA
    simp only [impl_TrailOf.l0] at H
    by_cases c14 : (x423001_1.length : Int) > 0
    ·rw [if_pos c14] at H
     have c14b0 : decide (0 < (x423001_1.length : Int)) = true := decide_eq_true c14
     have c14b1 : decide (0 < x423001_1.length) = true := decide_eq_true (by omega)
     clear c14
     obtain ⟨ji15, hji15⟩ : ∃ j_ : Int, (wrap64 ((x6_1.length : Int) - 1)) = j_ := ⟨_, rfl⟩
     replace H : (if 0 ≤ (ji15) then (if (ji15) < (x6_1.length : Int) then (impl_TrailOf.l1 k1 x6_1 (rd x6_1 (ji15)) a0_0 0 a0_0 l0_1 x423000_1 x423001_1) else (none)) else (none)) = some (r1, r2) := by first | (rw [hji15] at H; exact H) | (simp only [hji15] at H ⊢; exact H)
     have hji15w : (IntKind.i64.wrap ((x6_1.length : Int) - 1)) = ji15 := (i64_w _).trans hji15
     by_cases c16 : 0 ≤ (ji15)
     ·rw [if_pos c16] at H
      have c16b0 : decide (0 ≤ (ji15)) = true := decide_eq_true c16
      clear c16
      by_cases c17 : (ji15) < (x6_1.length : Int)
      ·rw [if_pos c17] at H
       have c17b0 : decide ((ji15) < (x6_1.length : Int)) = true := decide_eq_true c17
       clear c17
       have H' := Aside0.mk H
       clear H
       have hnb18 := NB422_414.out
       have hnc18 := NB414_422.out
       have hcz19_0 : wr.cell? ⟨gb422, 0, none⟩ = some (.int .i64 x423000_1) := (blk_cell BK422.out 0).trans rfl
       have hcz19_1 : wr.cell? ⟨gb422, 1, none⟩ = some (u423001) := (blk_cell BK422.out 1).trans rfl
       have hfz19_0 := blk_frozen BK422.out 0
       have hfz19_1 := blk_frozen BK422.out 1
       obtain ⟨Ao20, co20, eo20⟩ := Kd.V_slice HO_423001.out
       subst eo20
       obtain ⟨Ao21, co21, eo21⟩ := Kd.R_slice HO_6.out
       subst eo21
       have p423 : 0 ≤ ((ji15) : Int) := of_decide_eq_true (G.asm)
       have q423 : (ji15) < (x6_1.length : Int) := of_decide_eq_true (G.asm)
       obtain ⟨ad423, e423, hx423_0⟩ := Kd.at_int (Kd.R_reads' HO_6.out).2.2 (ji15) p423 q423
       cases e423
       replace p423 := eq_true p423
       replace q423 := eq_true q423
       have hcz22_0 : wr.cell? ⟨gb414, 0, none⟩ = some (.int .i64 a0_0) := (blk_cell BK414.out 0).trans rfl
       have hcz22_1 : wr.cell? ⟨gb414, 1, none⟩ = some (.slice A0_1 l0_1.length c0_1) := (blk_cell BK414.out 1).trans rfl
       have hfz22_0 := blk_frozen BK414.out 0
       have hfz22_1 := blk_frozen BK414.out 1
       go_wp2
       go_loopg [6, 31] k1 (fun kq v6 v31 w' => ∃ (x6_2 : List Int) (x31_2 : Int) (x423000_2 : Int) (x423001_2 : List (S63)) (u423001 : Value), v31 = .int .i64 x31_2 ∧ Aside0 (impl_TrailOf.l1 kq x6_2 (rd x6_1 (ji15)) a0_0 x31_2 a0_0 l0_1 x423000_2 x423001_2 = some (r1, r2)) ∧ Aside0 (kq ≤ k1) ∧ Aside0 (Kd.R (Kd.int .i64) 3 w' w.heap.size (fun k_ => (w.heap.size ≤ k_)) v6 x6_2) ∧ Aside0 (Kd.V k63 63 w' w.heap.size (fun k_ => (P0_1_ k_ ∨ w.heap.size ≤ k_) ∧ some k_ ≠ (v6 : Value).ownBlock ∧ k_ ≠ gb414 ∧ k_ ≠ gb422) (.slice A0_1 l0_1.length c0_1) l0_1) ∧ Aside0 (Kd.V k63 63 w' w.heap.size (fun k_ => (P0_1_ k_ ∨ w.heap.size ≤ k_) ∧ some k_ ≠ (v6 : Value).ownBlock ∧ k_ ≠ gb414 ∧ k_ ≠ gb422) u423001 x423001_2) ∧ Aside0 (w'.heap[gb414]? = some (.cells #[.int .i64 a0_0, (.slice A0_1 l0_1.length c0_1)] 29 (0, 0))) ∧ Aside0 (w'.heap[gb422]? = some (.cells #[.int .i64 x423000_2, u423001] 29 (0, 0))) ∧ Aside0 (Below w.heap.size w w'))
       case atStart => exact ⟨(x6_1), (0), (x423000_1), (x423001_1), (.slice Ao20 x423001_1.length co20), (by first | rfl | (simp; done) | (simp [*]; done)), H', ⟨Nat.le_refl _⟩, ⟨G.cR HO_6.out⟩, ⟨G.cV HO_415001.out⟩, ⟨G.cV HO_423001.out⟩, ⟨G.cb BK414.out⟩, ⟨G.cb BK422.out⟩, ⟨G.cB HB.out⟩⟩
       case round =>
        clear H'
        (try clear c1); (try clear c2); (try clear p2); (try clear c4); (try clear p4); (try clear q4); (try clear hx4); (try clear p6); (try clear c12); (try clear c14); (try clear c14b0); (try clear c14b1); (try clear c16); (try clear c16b0); (try clear c17); (try clear c17b0); (try clear c18); (try clear hcz10_0); (try clear hcz10_1); (try clear hcz13_0); (try clear hcz13_1); (try clear hcz19_0); (try clear hcz19_1); (try clear hcz22_0); (try clear hcz22_1); (try clear hcz6_0); (try clear hcz6_1); (try clear hfz10_0); (try clear hfz10_1); (try clear hfz13_0); (try clear hfz13_1); (try clear hfz19_0); (try clear hfz19_1); (try clear hfz22_0); (try clear hfz22_1); (try clear hfz6_0); (try clear hfz6_1); (try clear hx423_0); (try clear p2); (try clear p423); (try clear q423)
        obtain ⟨x6_2, x31_2, x423000_2, x423001_2, u423001, rfl, HA, HK2, HO_6, HO_415001, HO_423001, BK414, BK422, HB⟩ := hrel
        cases gk with
        | zero => exact absurd HA.out (by simp [impl_TrailOf.l1])
        | succ k2 =>
         have H := HA.out
         clear HA
         simp only [impl_TrailOf.l1] at H
         by_cases c23 : x31_2 < a0_0
         ·rw [if_pos c23] at H
          have c23b0 : decide (x31_2 < a0_0) = true := decide_eq_true c23
          clear c23
          replace H := Option.bind_eq_some_iff.mp H
          obtain ⟨t424, A240, H⟩ := H
          replace H : (if t424 = true then ((impl_tie.f (rd x6_1 (ji15)) x31_2).bind fun bt425 => ((impl_Net_less.f k2 x423000_2 x423001_2 (([(⟨bt425.1, bt425.2⟩ : S63)] : List (S63)))).bind fun bt430 => ((impl_Net_trail.f k2 bt430.1 bt430.2 x31_2).bind fun t435 => (if t435 = true then (if x6_2.length < 17592186044416 then (impl_TrailOf.l0 k2 (x6_2 ++ [x31_2]) a0_0 l0_1 bt430.1 bt430.2) else (none)) else (impl_TrailOf.l1 k2 x6_2 (rd x6_1 (ji15)) a0_0 (wrap64 (x31_2 + 1)) a0_0 l0_1 x423000_2 x423001_2))))) else (impl_TrailOf.l1 k2 x6_2 (rd x6_1 (ji15)) a0_0 (wrap64 (x31_2 + 1)) a0_0 l0_1 x423000_2 x423001_2)) = some (r1, r2) := H
          have A24 := Aside0.mk A240
          clear A240
          by_cases c25 : t424 = true
          ·subst c25
           have H1 : ((impl_tie.f (rd x6_1 (ji15)) x31_2).bind fun bt425 => ((impl_Net_less.f k2 x423000_2 x423001_2 (([(⟨bt425.1, bt425.2⟩ : S63)] : List (S63)))).bind fun bt430 => ((impl_Net_trail.f k2 bt430.1 bt430.2 x31_2).bind fun t435 => (if t435 = true then (if x6_2.length < 17592186044416 then (impl_TrailOf.l0 k2 (x6_2 ++ [x31_2]) a0_0 l0_1 bt430.1 bt430.2) else (none)) else (impl_TrailOf.l1 k2 x6_2 (rd x6_1 (ji15)) a0_0 (wrap64 (x31_2 + 1)) a0_0 l0_1 x423000_2 x423001_2))))) = some (r1, r2) := by rw [if_pos rfl] at H; exact H
           clear H
           have H := H1
           clear H1
           replace H := Option.bind_eq_some_iff.mp H
           obtain ⟨⟨t425, t426⟩, A260, H⟩ := H
           replace H : ((impl_Net_less.f k2 x423000_2 x423001_2 (([(⟨t425, t426⟩ : S63)] : List (S63)))).bind fun bt430 => ((impl_Net_trail.f k2 bt430.1 bt430.2 x31_2).bind fun t435 => (if t435 = true then (if x6_2.length < 17592186044416 then (impl_TrailOf.l0 k2 (x6_2 ++ [x31_2]) a0_0 l0_1 bt430.1 bt430.2) else (none)) else (impl_TrailOf.l1 k2 x6_2 (rd x6_1 (ji15)) a0_0 (wrap64 (x31_2 + 1)) a0_0 l0_1 x423000_2 x423001_2)))) = some (r1, r2) := H
           have A26 := Aside0.mk A260
           clear A260
           obtain ⟨y427, hy427⟩ : ∃ y_ : List (S63), y_ = (([(⟨t425, t426⟩ : S63)] : List (S63))) := ⟨_, rfl⟩
           replace H : ((impl_Net_less.f k2 x423000_2 x423001_2 y427).bind fun bt430 => ((impl_Net_trail.f k2 bt430.1 bt430.2 x31_2).bind fun t435 => (if t435 = true then (if x6_2.length < 17592186044416 then (impl_TrailOf.l0 k2 (x6_2 ++ [x31_2]) a0_0 l0_1 bt430.1 bt430.2) else (none)) else (impl_TrailOf.l1 k2 x6_2 (rd x6_1 (ji15)) a0_0 (wrap64 (x31_2 + 1)) a0_0 l0_1 x423000_2 x423001_2)))) = some (r1, r2) := by first | (rw [hy427]; with_reducible exact H) | (have H2_ := (Option.bind_some _ _).symm.trans H; rw [hy427]; with_reducible exact H2_) | (have H2_ := (Option.bind_some _ _).symm.trans H; with_reducible exact H2_) | with_reducible exact H | (rw [hy427]; exact H) | exact H
           have Ny427 := Aside0.mk hy427
           clear hy427
           replace H := Option.bind_eq_some_iff.mp H
           obtain ⟨⟨t430, t431⟩, A270, H⟩ := H
           replace H : ((impl_Net_trail.f k2 t430 t431 x31_2).bind fun t435 => (if t435 = true then (if x6_2.length < 17592186044416 then (impl_TrailOf.l0 k2 (x6_2 ++ [x31_2]) a0_0 l0_1 t430 t431) else (none)) else (impl_TrailOf.l1 k2 x6_2 (rd x6_1 (ji15)) a0_0 (wrap64 (x31_2 + 1)) a0_0 l0_1 x423000_2 x423001_2))) = some (r1, r2) := H
           have A27 := Aside0.mk A270
           clear A270
           replace H := Option.bind_eq_some_iff.mp H
           obtain ⟨t435, A280, H⟩ := H
           replace H : (if t435 = true then (if x6_2.length < 17592186044416 then (impl_TrailOf.l0 k2 (x6_2 ++ [x31_2]) a0_0 l0_1 t430 t431) else (none)) else (impl_TrailOf.l1 k2 x6_2 (rd x6_1 (ji15)) a0_0 (wrap64 (x31_2 + 1)) a0_0 l0_1 x423000_2 x423001_2)) = some (r1, r2) := H
           have A28 := Aside0.mk A280
           clear A280
           by_cases c29 : t435 = true
           ·subst c29
            have H1 : (if x6_2.length < 17592186044416 then (impl_TrailOf.l0 k2 (x6_2 ++ [x31_2]) a0_0 l0_1 t430 t431) else (none)) = some (r1, r2) := by rw [if_pos rfl] at H; exact H
            clear H
            have H := H1
            clear H1
            by_cases c30 : x6_2.length < 17592186044416
            ·rw [if_pos c30] at H
             have LMc30 := Aside0.mk c30
             clear c30
             obtain ⟨y436, hy436⟩ : ∃ y_ : List Int, y_ = (x6_2 ++ [x31_2]) := ⟨_, rfl⟩
             replace H : (impl_TrailOf.l0 k2 y436 a0_0 l0_1 t430 t431) = some (r1, r2) := by first | (rw [hy436]; with_reducible exact H) | (have H2_ := (Option.bind_some _ _).symm.trans H; rw [hy436]; with_reducible exact H2_) | (have H2_ := (Option.bind_some _ _).symm.trans H; with_reducible exact H2_) | with_reducible exact H | (rw [hy436]; exact H) | exact H
             have Ny436 := Aside0.mk hy436
             clear hy436
             have H' := Aside0.mk H
             clear H
             have hnb31 := NB422_414.out
             have hnc31 := NB414_422.out
             have hcz32_0 : wr.cell? ⟨gb422, 0, none⟩ = some (.int .i64 x423000_2) := (blk_cell BK422.out 0).trans rfl
             have hcz32_1 : wr.cell? ⟨gb422, 1, none⟩ = some (u423001) := (blk_cell BK422.out 1).trans rfl
             have hfz32_0 := blk_frozen BK422.out 0
             have hfz32_1 := blk_frozen BK422.out 1
             obtain ⟨Ao33, co33, eo33⟩ := Kd.V_slice HO_423001.out
             subst eo33
             try go_wp2_with (first | ((with_reducible refine gate_callee (f := 52) rfl ?_); refine goesL_ (some 37) rfl rfl Try.func52 (c22_23) rfl #[.agg #[.int .i64 x423000_2, .slice Ao33 x423001_2.length co33], .int .i64 (rd x6_1 (ji15)), .int .i64 x31_2] rfl (c22_13) ?_; (with_reducible refine (impl_Net_has.calls k2 x423000_2 _ _ x423001_2 (rd x6_1 (ji15)) x31_2 true _ ?side1 ?side2 A24.out).mono ?_); (case side1 => repeat (first | exact (Kd.V_reads' HO_423001.out).2.2 | (with_reducible refine Kd.C_alloc ?_ _) | (with_reducible refine Kd.C_drewN ?_ _) | (with_reducible refine Kd.C_drew ?_))); (case side2 => exact (Kd.V_reads' HO_423001.out).2.1); rintro e w34 ⟨rfl, hb⟩; refine ⟨_, rfl, ?_⟩; have n0_ := Aside0.mk (Kd.R_below (G.cR HO_6.out) hb); have n1_ := Aside0.mk (Kd.V_below (G.cV HO_415001.out) hb); have n2_ := Aside0.mk (Kd.V_below (G.cV HO_423001.out) hb); have n3_ := Aside0.mk (blk_below (g := gb414) (o := .cells #[.int .i64 a0_0, .slice A0_1 l0_1.length c0_1] 29 (0, 0)) (G.cb BK414.out) hb); have n4_ := Aside0.mk (blk_below (g := gb422) (o := .cells #[.int .i64 x423000_2, .slice Ao33 x423001_2.length co33] 29 (0, 0)) (G.cb BK422.out) hb); have n5_ := Aside0.mk (below_step (G.cB HB.out) hb); clear HO_6 HO_415001 HO_423001 BK414 BK422 HB; revert n0_ n1_ n2_ n3_ n4_ n5_; intro HO_6 HO_415001 HO_423001 BK414 BK422 HB; (try clear hb); (try clear hb2); (try clear hk); (try clear hi)))
             have n0_ := Aside0.mk (Kd.R_drew HO_6.out)
             have n1_ := Aside0.mk (Kd.V_drew HO_415001.out)
             have n2_ := Aside0.mk (Kd.V_drew HO_423001.out)
             have n3_ := Aside0.mk (blk_drew BK414.out)
             have n4_ := Aside0.mk (blk_drew BK422.out)
             have n5_ := Aside0.mk (below_drew1 HB.out)
             clear HO_6 HO_415001 HO_423001 BK414 BK422 HB
             revert n0_ n1_ n2_ n3_ n4_ n5_
             intro HO_6 HO_415001 HO_423001 BK414 BK422 HB
             refine start_ (n := 8) (S := fun w' => w'.cell? ⟨gb422, 0, none⟩ = some (.int .i64 x423000_2) ∧ w'.cell? ⟨gb422, 1, none⟩ = some (.slice Ao33 x423001_2.length co33)) (ds := []) (G.fl 8 0) (c22_23) rfl (c22_23) ⟨(blk_cell BK422.out 0).trans rfl, (blk_cell BK422.out 1).trans rfl⟩ (fun hHeld => ?_); refine with_tabW impl_TrailOf.tab11 impl_TrailOf.bits11 (fun HT_ HW_ => ?_)
             generalize w34.drew = w35 at HO_6 HO_415001 HO_423001 BK414 BK422 HB hHeld ⊢
             refine G.pu 1 (some 40) (G.fl 8 2) ?_
             refine G.pu 2 (some 41) (G.fl 8 6) ?_
             refine G.ta2 0 (some 39) (G.fl 8 7) ?_
             refine join_ (σ := Value × Value × Nat) 1 #[true, true, true, true, true, true, true, false] (fun s_ => [(42, .agg #[.int .i64 t425, .int .i64 t426]), (43, s_.1), (44, .agg #[.int .i64 t430, s_.2.1]), (10, .pointer (some ⟨s_.2.2, 0, none⟩))]) (fun s_ w' => (w'.cell? ⟨gb422, 0, none⟩ = some (.int .i64 x423000_2) ∧ w'.cell? ⟨gb422, 1, none⟩ = some (.slice Ao33 x423001_2.length co33)) ∧ (Kd.R k63 63 w' w.heap.size (fun k_ => (w.heap.size ≤ k_) ∧ some k_ ≠ (s_.2.1 : Value).ownBlock) s_.1 y427) ∧ (Kd.R k63 63 w' w.heap.size (fun k_ => (w.heap.size ≤ k_) ∧ some k_ ≠ (s_.1 : Value).ownBlock) s_.2.1 t431) ∧ (Kd.V k63 63 w' w.heap.size (fun k_ => (P0_1_ k_ ∨ w.heap.size ≤ k_) ∧ some k_ ≠ (s_.1 : Value).ownBlock ∧ some k_ ≠ (s_.2.1 : Value).ownBlock ∧ some k_ ≠ (u6 : Value).ownBlock ∧ k_ ≠ gb414 ∧ k_ ≠ gb422 ∧ k_ ≠ s_.2.2) (.slice A0_1 l0_1.length c0_1) l0_1) ∧ (Kd.V k63 63 w' w.heap.size (fun k_ => (P0_1_ k_ ∨ w.heap.size ≤ k_) ∧ some k_ ≠ (s_.1 : Value).ownBlock ∧ some k_ ≠ (s_.2.1 : Value).ownBlock ∧ some k_ ≠ (u6 : Value).ownBlock ∧ k_ ≠ gb414 ∧ k_ ≠ gb422 ∧ k_ ≠ s_.2.2) (.slice Ao33 x423001_2.length co33) x423001_2) ∧ (Kd.R (Kd.int .i64) 3 w' w.heap.size (fun k_ => (w.heap.size ≤ k_)) u6 x6_2) ∧ (w'.heap[gb414]? = some (.cells #[.int .i64 a0_0, .slice A0_1 l0_1.length c0_1] 29 (0, 0))) ∧ (w'.heap[gb422]? = some (.cells #[.int .i64 x423000_2, .slice Ao33 x423001_2.length co33] 29 (0, 0))) ∧ (w'.heap[s_.2.2]? = some (.cells #[.int .i64 0, .slice none 0 0] 29 (0, 0))) ∧ (w.heap.size ≤ s_.2.2) ∧ (w.heap.size ≤ s_.2.2) ∧ (gb414 ≠ s_.2.2) ∧ (s_.2.2 ≠ gb414) ∧ (gb422 ≠ s_.2.2) ∧ (s_.2.2 ≠ gb422) ∧ (Below w.heap.size w w')) ?_ ?_
             rotate_left
             ·intro hCont
              refine two_ (i := 3) (j := 6) (Ni := some 42) (Nj := some 10) #[true, true, true, true, false, false, false, false] #[true, true, true, false, false, false, true, false] rfl rfl rfl rfl (two_of HT_.out (c22_23)) (c22_24) (c22_24) (fun K hK => ?_) (fun K hK => ?_)
              ·skip
               refine goes_ Try.func51 (c22_23) rfl #[.int .i64 (rd x6_1 (ji15)), .int .i64 x31_2] (by rfl) rfl rfl (c22_13) ?_
               with_reducible refine (impl_tie.calls (rd x6_1 (ji15)) x31_2 t425 t426 _ A26.out).mono ?_
               rintro e w36 ⟨rfl, hb⟩
               refine ⟨_, rfl, ?_⟩
               have n0_ := Aside0.mk (Kd.R_below (G.cR HO_6.out) hb)
               have n1_ := Aside0.mk (Kd.V_below (G.cV HO_415001.out) hb)
               have n2_ := Aside0.mk (Kd.V_below (G.cV HO_423001.out) hb)
               have n3_ := Aside0.mk (blk_below (g := gb414) (o := .cells #[.int .i64 a0_0, .slice A0_1 l0_1.length c0_1] 29 (0, 0)) (G.cb BK414.out) hb)
               have n4_ := Aside0.mk (blk_below (g := gb422) (o := .cells #[.int .i64 x423000_2, .slice Ao33 x423001_2.length co33] 29 (0, 0)) (G.cb BK422.out) hb)
               have n5_ := Aside0.mk (below_step (G.cB HB.out) hb)
               clear HO_6 HO_415001 HO_423001 BK414 BK422 HB
               revert n0_ n1_ n2_ n3_ n4_ n5_
               intro HO_6 HO_415001 HO_423001 BK414 BK422 HB
               (try clear hb)
               (try clear hb2)
               (try clear hk)
               (try clear hi)
               refine hK.out _ _ ⟨(blk_cell BK422.out 0).trans rfl, (blk_cell BK422.out 1).trans rfl⟩ (fun hHeld => ?_)
               clear hK K
               refine G.no (some 42) ?_
               refine two_ (i := 4) (j := 6) (Ni := some 43) (Nj := some 10) #[true, true, true, true, true, false, false, false] #[true, true, true, true, false, false, true, false] rfl rfl rfl rfl (two_of HT_.out (c22_23)) (c22_24) (c22_24) (fun K hK => ?_) (fun K hK => ?_)
               ·skip
                refine Kd.R_lit_step k63 _ 63 ?hg (N := 43) ?hd (xs := ([(⟨t425, t426⟩ : S63)] : List (S63))) (inner := [.int .i64 t425, .int .i64 t426]) (ok := fun _ => True) (okp := fun _ => True) ?hr ?hp (fun _ hk => hk) trivial (Below.refl _ _) (Nat.le_refl _) (by simp) ?_; (case hd => rfl); (case hg => rfl); (case hr => first | (go_simp; done) | (go_simp; rfl)); (case hp => exact (Reps.c2 (show Kd.M k63 _ _ _ (⟨t425, t426⟩ : S63) [.int .i64 t425, .int .i64 t426] from (k63_mkM _ _ _ (⟨t425, t426⟩ : S63) )) (Reps.none _ _)))
                intro v428 w37 ho38 hb hg_ hnew_
                clear hg_ hnew_
                (first | rw [← Ny427.out] at ho38 | (simp only [Int.reduceToNat] at ho38; rw [← Ny427.out] at ho38))
                have n0_ := Aside0.mk (Kd.R_below (G.cR HO_6.out) hb)
                have n1_ := Aside0.mk (Kd.V_elder' (G.cV HO_415001.out) (Kd.R_base ho38) hb)
                have n2_ := Aside0.mk (Kd.V_elder' (G.cV HO_423001.out) (Kd.R_base ho38) hb)
                have n3_ := Aside0.mk (Kd.R_lower (Kd.R_newM (M := fun k_ => (w.heap.size ≤ k_)) ho38 (below_size (G.cB HB.out)) (fun k_ h_ => h_)) (below_size (G.cB HB.out)))
                have n4_ := Aside0.mk (blk_below (g := gb414) (o := .cells #[.int .i64 a0_0, .slice A0_1 l0_1.length c0_1] 29 (0, 0)) (G.cb BK414.out) hb)
                have n5_ := Aside0.mk (blk_below (g := gb422) (o := .cells #[.int .i64 x423000_2, .slice Ao33 x423001_2.length co33] 29 (0, 0)) (G.cb BK422.out) hb)
                have n6_ := Aside0.mk (below_step (G.cB HB.out) hb)
                clear HO_6 HO_415001 HO_423001 BK414 BK422 HB
                revert n0_ n1_ n2_ n3_ n4_ n5_ n6_
                intro HO_6 HO_415001 HO_423001 HO429 BK414 BK422 HB
                clear hb ho38
                obtain ⟨Ao39, co39, eo39⟩ := Kd.R_slice HO429.out
                (first | subst eo39 | (injection eo39 with f1_ f2_ f3_; have f4_ := f1_.symm; have f5_ := f3_.symm; clear f1_ f2_ f3_; subst f4_; subst f5_))
                refine hK.out _ _ ⟨(blk_cell BK422.out 0).trans rfl, (blk_cell BK422.out 1).trans rfl⟩ (fun hHeld => ?_)
                clear hK K
                refine G.no (some 43) ?_
                refine two_ (i := 5) (j := 6) (Ni := some 44) (Nj := some 10) #[true, true, true, true, true, true, false, false] #[true, true, true, true, true, false, true, false] rfl rfl rfl rfl (two_of HT_.out (c22_23)) (c22_24) (c22_24) (fun K hK => ?_) (fun K hK => ?_)
                ·skip
                 refine goes_ Try.func50 (c22_23) rfl #[.agg #[.int .i64 x423000_2, .slice Ao33 x423001_2.length co33], .slice Ao39 y427.length co39] (by rfl) rfl rfl (G.ar) ?_
                 with_reducible refine (impl_Net_less.calls k2 x423000_2 _ _ x423001_2 _ _ y427 t430 t431 _ ?side1 ?side2 ?side3 ?side4 A27.out).mono ?_
                 (case side1 => repeat (first | exact (Kd.V_reads' HO_423001.out).2.2 | (with_reducible refine Kd.C_alloc ?_ _) | (with_reducible refine Kd.C_drewN ?_ _) | (with_reducible refine Kd.C_drew ?_)))
                 (case side2 => exact (Kd.V_reads' HO_423001.out).2.1)
                 (case side3 => repeat (first | exact (Kd.R_reads' HO429.out).2.2 | (with_reducible refine Kd.C_alloc ?_ _) | (with_reducible refine Kd.C_drewN ?_ _) | (with_reducible refine Kd.C_drew ?_)))
                 (case side4 => exact (Kd.R_reads' HO429.out).2.1)
                 rintro e w40 ⟨v432, rfl, ho0, hb⟩
                 refine ⟨_, rfl, ?_⟩
                 have n0_ := Aside0.mk (Kd.R_below (G.cR HO_6.out) hb)
                 have n1_ := Aside0.mk (Kd.V_elder' (G.cV HO_415001.out) (Kd.R_base ho0) hb)
                 have n2_ := Aside0.mk (Kd.V_elder' (G.cV HO_423001.out) (Kd.R_base ho0) hb)
                 have n3_ := Aside0.mk (Kd.R_elder' (G.cR HO429.out) (Kd.R_base ho0) hb)
                 have n4_ := Aside0.mk (Kd.R_lower (Kd.R_new' (Kd.R_newM (M := fun k_ => (w.heap.size ≤ k_)) ho0 (below_size (G.cB HB.out)) (fun k_ h_ => h_)) (Kd.R_lt (G.cR HO429.out))) (below_size (G.cB HB.out)))
                 have n5_ := Aside0.mk (blk_below (g := gb414) (o := .cells #[.int .i64 a0_0, .slice A0_1 l0_1.length c0_1] 29 (0, 0)) (G.cb BK414.out) hb)
                 have n6_ := Aside0.mk (blk_below (g := gb422) (o := .cells #[.int .i64 x423000_2, .slice Ao33 x423001_2.length co33] 29 (0, 0)) (G.cb BK422.out) hb)
                 have n7_ := Aside0.mk (below_step (G.cB HB.out) hb)
                 clear HO_6 HO_415001 HO_423001 HO429 BK414 BK422 HB
                 revert n0_ n1_ n2_ n3_ n4_ n5_ n6_ n7_
                 intro HO_6 HO_415001 HO_423001 HO429 HO433 BK414 BK422 HB
                 (try clear hb)
                 (try clear hb2)
                 (try clear hk)
                 (try clear hi)
                 (try clear ho0)
                 refine hK.out _ _ ⟨(blk_cell BK422.out 0).trans rfl, (blk_cell BK422.out 1).trans rfl⟩ (fun hHeld => ?_)
                 clear hK K
                 refine G.no (some 44) ?_
                 refine one_ (i := 6) (N := some 10) (G.fl 8 127) rfl rfl (one_of HT_.out (c22_23)) (c22_24) (fun K hK => ?_)
                 refine box_step ?hg (N := 10) ?hd (cs := #[.int .i64 0, .slice none 0 0]) (t := 29) ?hr ?_; (case hd => rfl); (case hg => rfl); (case hr => first | (go_simp; done) | (go_simp; rfl))
                 intro gb434 hg w41 hbox hb
                 have n0_ := Aside0.mk (Kd.R_below (G.cR HO_6.out) hb)
                 have n1_ := Aside0.mk (Kd.V_below (Kd.V_elderB (G.cV HO_415001.out) gb434 (Nat.le_of_eq hg.symm)) hb)
                 have n2_ := Aside0.mk (Kd.V_below (Kd.V_elderB (G.cV HO_423001.out) gb434 (Nat.le_of_eq hg.symm)) hb)
                 have n3_ := Aside0.mk (Kd.R_below (G.cR HO429.out) hb)
                 have n4_ := Aside0.mk (Kd.R_below (G.cR HO433.out) hb)
                 have n5_ := Aside0.mk (blk_below (g := gb414) (o := .cells #[.int .i64 a0_0, .slice A0_1 l0_1.length c0_1] 29 (0, 0)) (G.cb BK414.out) hb)
                 have n6_ := Aside0.mk (blk_below (g := gb422) (o := .cells #[.int .i64 x423000_2, .slice Ao33 x423001_2.length co33] 29 (0, 0)) (G.cb BK422.out) hb)
                 have n7_ := Aside0.mk (below_step (G.cB HB.out) hb)
                 have n8_ := Aside0.mk (hbox)
                 have n9_ := Aside0.mk ((c22_22 : w.heap.size ≤ gb434))
                 have n10_ := Aside0.mk ((c22_22 : w.heap.size ≤ gb434))
                 have n11_ := Aside0.mk ((c22_20 : gb414 ≠ gb434))
                 have n12_ := Aside0.mk ((c22_21 : gb434 ≠ gb414))
                 have n13_ := Aside0.mk ((c22_14 : gb422 ≠ gb434))
                 have n14_ := Aside0.mk ((c22_15 : gb434 ≠ gb422))
                 clear HO_6 HO_415001 HO_423001 HO429 HO433 BK414 BK422 HB
                 revert n0_ n1_ n2_ n3_ n4_ n5_ n6_ n7_ n8_ n9_ n10_ n11_ n12_ n13_ n14_
                 intro HO_6 HO_415001 HO_423001 HO429 HO433 BK414 BK422 HB BK434 GW434 GE434 NB414_434 NB434_414 NB422_434 NB434_422
                 clear hb hbox hg
                 refine hK.out _ _ ⟨(blk_cell BK422.out 0).trans rfl, (blk_cell BK422.out 1).trans rfl⟩ (fun hHeld => ?_)
                 clear hK K
                 refine G.no (some 10) ?_
                 exact norm_ (by simp only [putAll, Act.put, List.setIfInBounds_toArray, List.set_cons_zero, List.set_cons_succ]) (hCont (.slice Ao39 y427.length co39, v432, gb434) _ ⟨hHeld, (c22_18), (c22_19), (c22_7), (c22_8), (G.cR HO_6.out), (G.cb BK414.out), (G.cb BK422.out), (G.cb BK434.out), GW434.out, GE434.out, NB414_434.out, NB434_414.out, NB422_434.out, NB434_422.out, (G.cB HB.out)⟩)
                ·skip
                 refine box_step ?hg (N := 10) ?hd (cs := #[.int .i64 0, .slice none 0 0]) (t := 29) ?hr ?_; (case hd => rfl); (case hg => rfl); (case hr => first | (go_simp; done) | (go_simp; rfl))
                 intro gb434 hg w39 hbox hb
                 have n0_ := Aside0.mk (Kd.R_below (G.cR HO_6.out) hb)
                 have n1_ := Aside0.mk (Kd.V_below (Kd.V_elderB (G.cV HO_415001.out) gb434 (Nat.le_of_eq hg.symm)) hb)
                 have n2_ := Aside0.mk (Kd.V_below (Kd.V_elderB (G.cV HO_423001.out) gb434 (Nat.le_of_eq hg.symm)) hb)
                 have n3_ := Aside0.mk (Kd.R_below (G.cR HO429.out) hb)
                 have n4_ := Aside0.mk (blk_below (g := gb414) (o := .cells #[.int .i64 a0_0, .slice A0_1 l0_1.length c0_1] 29 (0, 0)) (G.cb BK414.out) hb)
                 have n5_ := Aside0.mk (blk_below (g := gb422) (o := .cells #[.int .i64 x423000_2, .slice Ao33 x423001_2.length co33] 29 (0, 0)) (G.cb BK422.out) hb)
                 have n6_ := Aside0.mk (below_step (G.cB HB.out) hb)
                 have n7_ := Aside0.mk (hbox)
                 have n8_ := Aside0.mk ((c22_22 : w.heap.size ≤ gb434))
                 have n9_ := Aside0.mk ((c22_22 : w.heap.size ≤ gb434))
                 have n10_ := Aside0.mk ((c22_20 : gb414 ≠ gb434))
                 have n11_ := Aside0.mk ((c22_21 : gb434 ≠ gb414))
                 have n12_ := Aside0.mk ((c22_14 : gb422 ≠ gb434))
                 have n13_ := Aside0.mk ((c22_15 : gb434 ≠ gb422))
                 clear HO_6 HO_415001 HO_423001 HO429 BK414 BK422 HB
                 revert n0_ n1_ n2_ n3_ n4_ n5_ n6_ n7_ n8_ n9_ n10_ n11_ n12_ n13_
                 intro HO_6 HO_415001 HO_423001 HO429 BK414 BK422 HB BK434 GW434 GE434 NB414_434 NB434_414 NB422_434 NB434_422
                 clear hb hbox hg
                 obtain ⟨Ao40, co40, eo40⟩ := Kd.R_slice HO429.out
                 (first | subst eo40 | (injection eo40 with f1_ f2_ f3_; have f4_ := f1_.symm; have f5_ := f3_.symm; clear f1_ f2_ f3_; subst f4_; subst f5_))
                 refine hK.out _ _ ⟨(blk_cell BK422.out 0).trans rfl, (blk_cell BK422.out 1).trans rfl⟩ (fun hHeld => ?_)
                 clear hK K
                 refine G.no (some 10) ?_
                 refine one_ (i := 5) (N := some 44) (G.fl 8 127) rfl rfl (one_of HT_.out (c22_23)) (c22_24) (fun K hK => ?_)
                 refine goes_ Try.func50 (c22_23) rfl #[.agg #[.int .i64 x423000_2, .slice Ao33 x423001_2.length co33], .slice Ao40 y427.length co40] (by rfl) rfl rfl (G.ar) ?_
                 with_reducible refine (impl_Net_less.calls k2 x423000_2 _ _ x423001_2 _ _ y427 t430 t431 _ ?side1 ?side2 ?side3 ?side4 A27.out).mono ?_
                 (case side1 => repeat (first | exact (Kd.V_reads' HO_423001.out).2.2 | (with_reducible refine Kd.C_alloc ?_ _) | (with_reducible refine Kd.C_drewN ?_ _) | (with_reducible refine Kd.C_drew ?_)))
                 (case side2 => exact (Kd.V_reads' HO_423001.out).2.1)
                 (case side3 => repeat (first | exact (Kd.R_reads' HO429.out).2.2 | (with_reducible refine Kd.C_alloc ?_ _) | (with_reducible refine Kd.C_drewN ?_ _) | (with_reducible refine Kd.C_drew ?_)))
                 (case side4 => exact (Kd.R_reads' HO429.out).2.1)
                 rintro e w41 ⟨v432, rfl, ho0, hb⟩
                 refine ⟨_, rfl, ?_⟩
                 have n0_ := Aside0.mk (Kd.R_below (G.cR HO_6.out) hb)
                 have n1_ := Aside0.mk (Kd.V_elder' (G.cV HO_415001.out) (Kd.R_base ho0) hb)
                 have n2_ := Aside0.mk (Kd.V_elder' (G.cV HO_423001.out) (Kd.R_base ho0) hb)
                 have n3_ := Aside0.mk (Kd.R_elder' (G.cR HO429.out) (Kd.R_base ho0) hb)
                 have n4_ := Aside0.mk (Kd.R_lower (Kd.R_new' (Kd.R_newM (M := fun k_ => (w.heap.size ≤ k_)) ho0 (below_size (G.cB HB.out)) (fun k_ h_ => h_)) (Kd.R_lt (G.cR HO429.out))) (below_size (G.cB HB.out)))
                 have n5_ := Aside0.mk (blk_below (g := gb414) (o := .cells #[.int .i64 a0_0, .slice A0_1 l0_1.length c0_1] 29 (0, 0)) (G.cb BK414.out) hb)
                 have n6_ := Aside0.mk (blk_below (g := gb422) (o := .cells #[.int .i64 x423000_2, .slice Ao33 x423001_2.length co33] 29 (0, 0)) (G.cb BK422.out) hb)
                 have n7_ := Aside0.mk (blk_below (g := gb434) (o := .cells #[.int .i64 0, .slice none 0 0] 29 (0, 0)) (G.cb BK434.out) hb)
                 have n8_ := Aside0.mk (below_step (G.cB HB.out) hb)
                 clear HO_6 HO_415001 HO_423001 HO429 BK414 BK422 BK434 HB
                 revert n0_ n1_ n2_ n3_ n4_ n5_ n6_ n7_ n8_
                 intro HO_6 HO_415001 HO_423001 HO429 HO433 BK414 BK422 BK434 HB
                 (try clear hb)
                 (try clear hb2)
                 (try clear hk)
                 (try clear hi)
                 (try clear ho0)
                 refine hK.out _ _ ⟨(blk_cell BK422.out 0).trans rfl, (blk_cell BK422.out 1).trans rfl⟩ (fun hHeld => ?_)
                 clear hK K
                 refine G.no (some 44) ?_
                 exact norm_ (by simp only [putAll, Act.put, List.setIfInBounds_toArray, List.set_cons_zero, List.set_cons_succ]) (hCont (.slice Ao40 y427.length co40, v432, gb434) _ ⟨hHeld, (c22_18), (c22_19), (c22_9), (c22_10), (G.cR HO_6.out), (G.cb BK414.out), (G.cb BK422.out), (G.cb BK434.out), GW434.out, GE434.out, NB414_434.out, NB434_414.out, NB422_434.out, NB434_422.out, (G.cB HB.out)⟩)
               ·skip
                refine box_step ?hg (N := 10) ?hd (cs := #[.int .i64 0, .slice none 0 0]) (t := 29) ?hr ?_; (case hd => rfl); (case hg => rfl); (case hr => first | (go_simp; done) | (go_simp; rfl))
                intro gb434 hg w37 hbox hb
                have n0_ := Aside0.mk (Kd.R_below (G.cR HO_6.out) hb)
                have n1_ := Aside0.mk (Kd.V_below (Kd.V_elderB (G.cV HO_415001.out) gb434 (Nat.le_of_eq hg.symm)) hb)
                have n2_ := Aside0.mk (Kd.V_below (Kd.V_elderB (G.cV HO_423001.out) gb434 (Nat.le_of_eq hg.symm)) hb)
                have n3_ := Aside0.mk (blk_below (g := gb414) (o := .cells #[.int .i64 a0_0, .slice A0_1 l0_1.length c0_1] 29 (0, 0)) (G.cb BK414.out) hb)
                have n4_ := Aside0.mk (blk_below (g := gb422) (o := .cells #[.int .i64 x423000_2, .slice Ao33 x423001_2.length co33] 29 (0, 0)) (G.cb BK422.out) hb)
                have n5_ := Aside0.mk (below_step (G.cB HB.out) hb)
                have n6_ := Aside0.mk (hbox)
                have n7_ := Aside0.mk ((c22_22 : w.heap.size ≤ gb434))
                have n8_ := Aside0.mk ((c22_22 : w.heap.size ≤ gb434))
                have n9_ := Aside0.mk ((c22_20 : gb414 ≠ gb434))
                have n10_ := Aside0.mk ((c22_21 : gb434 ≠ gb414))
                have n11_ := Aside0.mk ((c22_14 : gb422 ≠ gb434))
                have n12_ := Aside0.mk ((c22_15 : gb434 ≠ gb422))
                clear HO_6 HO_415001 HO_423001 BK414 BK422 HB
                revert n0_ n1_ n2_ n3_ n4_ n5_ n6_ n7_ n8_ n9_ n10_ n11_ n12_
                intro HO_6 HO_415001 HO_423001 BK414 BK422 HB BK434 GW434 GE434 NB414_434 NB434_414 NB422_434 NB434_422
                clear hb hbox hg
                refine hK.out _ _ ⟨(blk_cell BK422.out 0).trans rfl, (blk_cell BK422.out 1).trans rfl⟩ (fun hHeld => ?_)
                clear hK K
                refine G.no (some 10) ?_
                refine one_ (i := 4) (N := some 43) (G.fl 8 95) rfl rfl (one_of HT_.out (c22_23)) (c22_24) (fun K hK => ?_)
                refine Kd.R_lit_step k63 _ 63 ?hg (N := 43) ?hd (xs := ([(⟨t425, t426⟩ : S63)] : List (S63))) (inner := [.int .i64 t425, .int .i64 t426]) (ok := fun _ => True) (okp := fun _ => True) ?hr ?hp (fun _ hk => hk) trivial (Below.refl _ _) (Nat.le_refl _) (by simp) ?_; (case hd => rfl); (case hg => rfl); (case hr => first | (go_simp; done) | (go_simp; rfl)); (case hp => exact (Reps.c2 (show Kd.M k63 _ _ _ (⟨t425, t426⟩ : S63) [.int .i64 t425, .int .i64 t426] from (k63_mkM _ _ _ (⟨t425, t426⟩ : S63) )) (Reps.none _ _)))
                intro v428 w38 ho39 hb hg_ hnew_
                clear hg_ hnew_
                (first | rw [← Ny427.out] at ho39 | (simp only [Int.reduceToNat] at ho39; rw [← Ny427.out] at ho39))
                have n0_ := Aside0.mk (Kd.R_below (G.cR HO_6.out) hb)
                have n1_ := Aside0.mk (Kd.V_elder' (G.cV HO_415001.out) (Kd.R_base ho39) hb)
                have n2_ := Aside0.mk (Kd.V_elder' (G.cV HO_423001.out) (Kd.R_base ho39) hb)
                have n3_ := Aside0.mk (Kd.R_lower (Kd.R_newM (M := fun k_ => (w.heap.size ≤ k_)) ho39 (below_size (G.cB HB.out)) (fun k_ h_ => h_)) (below_size (G.cB HB.out)))
                have n4_ := Aside0.mk (blk_below (g := gb414) (o := .cells #[.int .i64 a0_0, .slice A0_1 l0_1.length c0_1] 29 (0, 0)) (G.cb BK414.out) hb)
                have n5_ := Aside0.mk (blk_below (g := gb422) (o := .cells #[.int .i64 x423000_2, .slice Ao33 x423001_2.length co33] 29 (0, 0)) (G.cb BK422.out) hb)
                have n6_ := Aside0.mk (blk_below (g := gb434) (o := .cells #[.int .i64 0, .slice none 0 0] 29 (0, 0)) (G.cb BK434.out) hb)
                have n7_ := Aside0.mk (below_step (G.cB HB.out) hb)
                clear HO_6 HO_415001 HO_423001 BK414 BK422 BK434 HB
                revert n0_ n1_ n2_ n3_ n4_ n5_ n6_ n7_
                intro HO_6 HO_415001 HO_423001 HO429 BK414 BK422 BK434 HB
                clear hb ho39
                obtain ⟨Ao40, co40, eo40⟩ := Kd.R_slice HO429.out
                (first | subst eo40 | (injection eo40 with f1_ f2_ f3_; have f4_ := f1_.symm; have f5_ := f3_.symm; clear f1_ f2_ f3_; subst f4_; subst f5_))
                refine hK.out _ _ ⟨(blk_cell BK422.out 0).trans rfl, (blk_cell BK422.out 1).trans rfl⟩ (fun hHeld => ?_)
                clear hK K
                refine G.no (some 43) ?_
                refine one_ (i := 5) (N := some 44) (G.fl 8 127) rfl rfl (one_of HT_.out (c22_23)) (c22_24) (fun K hK => ?_)
                refine goes_ Try.func50 (c22_23) rfl #[.agg #[.int .i64 x423000_2, .slice Ao33 x423001_2.length co33], .slice Ao40 y427.length co40] (by rfl) rfl rfl (G.ar) ?_
                with_reducible refine (impl_Net_less.calls k2 x423000_2 _ _ x423001_2 _ _ y427 t430 t431 _ ?side1 ?side2 ?side3 ?side4 A27.out).mono ?_
                (case side1 => repeat (first | exact (Kd.V_reads' HO_423001.out).2.2 | (with_reducible refine Kd.C_alloc ?_ _) | (with_reducible refine Kd.C_drewN ?_ _) | (with_reducible refine Kd.C_drew ?_)))
                (case side2 => exact (Kd.V_reads' HO_423001.out).2.1)
                (case side3 => repeat (first | exact (Kd.R_reads' HO429.out).2.2 | (with_reducible refine Kd.C_alloc ?_ _) | (with_reducible refine Kd.C_drewN ?_ _) | (with_reducible refine Kd.C_drew ?_)))
                (case side4 => exact (Kd.R_reads' HO429.out).2.1)
                rintro e w41 ⟨v432, rfl, ho0, hb⟩
                refine ⟨_, rfl, ?_⟩
                have n0_ := Aside0.mk (Kd.R_below (G.cR HO_6.out) hb)
                have n1_ := Aside0.mk (Kd.V_elder' (G.cV HO_415001.out) (Kd.R_base ho0) hb)
                have n2_ := Aside0.mk (Kd.V_elder' (G.cV HO_423001.out) (Kd.R_base ho0) hb)
                have n3_ := Aside0.mk (Kd.R_elder' (G.cR HO429.out) (Kd.R_base ho0) hb)
                have n4_ := Aside0.mk (Kd.R_lower (Kd.R_new' (Kd.R_newM (M := fun k_ => (w.heap.size ≤ k_)) ho0 (below_size (G.cB HB.out)) (fun k_ h_ => h_)) (Kd.R_lt (G.cR HO429.out))) (below_size (G.cB HB.out)))
                have n5_ := Aside0.mk (blk_below (g := gb414) (o := .cells #[.int .i64 a0_0, .slice A0_1 l0_1.length c0_1] 29 (0, 0)) (G.cb BK414.out) hb)
                have n6_ := Aside0.mk (blk_below (g := gb422) (o := .cells #[.int .i64 x423000_2, .slice Ao33 x423001_2.length co33] 29 (0, 0)) (G.cb BK422.out) hb)
                have n7_ := Aside0.mk (blk_below (g := gb434) (o := .cells #[.int .i64 0, .slice none 0 0] 29 (0, 0)) (G.cb BK434.out) hb)
                have n8_ := Aside0.mk (below_step (G.cB HB.out) hb)
                clear HO_6 HO_415001 HO_423001 HO429 BK414 BK422 BK434 HB
                revert n0_ n1_ n2_ n3_ n4_ n5_ n6_ n7_ n8_
                intro HO_6 HO_415001 HO_423001 HO429 HO433 BK414 BK422 BK434 HB
                (try clear hb)
                (try clear hb2)
                (try clear hk)
                (try clear hi)
                (try clear ho0)
                refine hK.out _ _ ⟨(blk_cell BK422.out 0).trans rfl, (blk_cell BK422.out 1).trans rfl⟩ (fun hHeld => ?_)
                clear hK K
                refine G.no (some 44) ?_
                exact norm_ (by simp only [putAll, Act.put, List.setIfInBounds_toArray, List.set_cons_zero, List.set_cons_succ]) (hCont (.slice Ao40 y427.length co40, v432, gb434) _ ⟨hHeld, (c22_18), (c22_19), (c22_11), (c22_12), (G.cR HO_6.out), (G.cb BK414.out), (G.cb BK422.out), (G.cb BK434.out), GW434.out, GE434.out, NB414_434.out, NB434_414.out, NB422_434.out, NB434_422.out, (G.cB HB.out)⟩)
              ·skip
               refine box_step ?hg (N := 10) ?hd (cs := #[.int .i64 0, .slice none 0 0]) (t := 29) ?hr ?_; (case hd => rfl); (case hg => rfl); (case hr => first | (go_simp; done) | (go_simp; rfl))
               intro gb434 hg w36 hbox hb
               have n0_ := Aside0.mk (Kd.R_below (G.cR HO_6.out) hb)
               have n1_ := Aside0.mk (Kd.V_below (Kd.V_elderB (G.cV HO_415001.out) gb434 (Nat.le_of_eq hg.symm)) hb)
               have n2_ := Aside0.mk (Kd.V_below (Kd.V_elderB (G.cV HO_423001.out) gb434 (Nat.le_of_eq hg.symm)) hb)
               have n3_ := Aside0.mk (blk_below (g := gb414) (o := .cells #[.int .i64 a0_0, .slice A0_1 l0_1.length c0_1] 29 (0, 0)) (G.cb BK414.out) hb)
               have n4_ := Aside0.mk (blk_below (g := gb422) (o := .cells #[.int .i64 x423000_2, .slice Ao33 x423001_2.length co33] 29 (0, 0)) (G.cb BK422.out) hb)
               have n5_ := Aside0.mk (below_step (G.cB HB.out) hb)
               have n6_ := Aside0.mk (hbox)
               have n7_ := Aside0.mk ((c22_22 : w.heap.size ≤ gb434))
               have n8_ := Aside0.mk ((c22_22 : w.heap.size ≤ gb434))
               have n9_ := Aside0.mk ((c22_20 : gb414 ≠ gb434))
               have n10_ := Aside0.mk ((c22_21 : gb434 ≠ gb414))
               have n11_ := Aside0.mk ((c22_14 : gb422 ≠ gb434))
               have n12_ := Aside0.mk ((c22_15 : gb434 ≠ gb422))
               clear HO_6 HO_415001 HO_423001 BK414 BK422 HB
               revert n0_ n1_ n2_ n3_ n4_ n5_ n6_ n7_ n8_ n9_ n10_ n11_ n12_
               intro HO_6 HO_415001 HO_423001 BK414 BK422 HB BK434 GW434 GE434 NB414_434 NB434_414 NB422_434 NB434_422
               clear hb hbox hg
               refine hK.out _ _ ⟨(blk_cell BK422.out 0).trans rfl, (blk_cell BK422.out 1).trans rfl⟩ (fun hHeld => ?_)
               clear hK K
               refine G.no (some 10) ?_
               refine one_ (i := 3) (N := some 42) (G.fl 8 79) rfl rfl (one_of HT_.out (c22_23)) (c22_24) (fun K hK => ?_)
               refine goes_ Try.func51 (c22_23) rfl #[.int .i64 (rd x6_1 (ji15)), .int .i64 x31_2] (by rfl) rfl rfl (c22_13) ?_
               with_reducible refine (impl_tie.calls (rd x6_1 (ji15)) x31_2 t425 t426 _ A26.out).mono ?_
               rintro e w37 ⟨rfl, hb⟩
               refine ⟨_, rfl, ?_⟩
               have n0_ := Aside0.mk (Kd.R_below (G.cR HO_6.out) hb)
               have n1_ := Aside0.mk (Kd.V_below (G.cV HO_415001.out) hb)
               have n2_ := Aside0.mk (Kd.V_below (G.cV HO_423001.out) hb)
               have n3_ := Aside0.mk (blk_below (g := gb414) (o := .cells #[.int .i64 a0_0, .slice A0_1 l0_1.length c0_1] 29 (0, 0)) (G.cb BK414.out) hb)
               have n4_ := Aside0.mk (blk_below (g := gb422) (o := .cells #[.int .i64 x423000_2, .slice Ao33 x423001_2.length co33] 29 (0, 0)) (G.cb BK422.out) hb)
               have n5_ := Aside0.mk (blk_below (g := gb434) (o := .cells #[.int .i64 0, .slice none 0 0] 29 (0, 0)) (G.cb BK434.out) hb)
               have n6_ := Aside0.mk (below_step (G.cB HB.out) hb)
               clear HO_6 HO_415001 HO_423001 BK414 BK422 BK434 HB
               revert n0_ n1_ n2_ n3_ n4_ n5_ n6_
               intro HO_6 HO_415001 HO_423001 BK414 BK422 BK434 HB
               (try clear hb)
               (try clear hb2)
               (try clear hk)
               (try clear hi)
               refine hK.out _ _ ⟨(blk_cell BK422.out 0).trans rfl, (blk_cell BK422.out 1).trans rfl⟩ (fun hHeld => ?_)
               clear hK K
               refine G.no (some 42) ?_
               refine one_ (i := 4) (N := some 43) (G.fl 8 95) rfl rfl (one_of HT_.out (c22_23)) (c22_24) (fun K hK => ?_)
               refine Kd.R_lit_step k63 _ 63 ?hg (N := 43) ?hd (xs := ([(⟨t425, t426⟩ : S63)] : List (S63))) (inner := [.int .i64 t425, .int .i64 t426]) (ok := fun _ => True) (okp := fun _ => True) ?hr ?hp (fun _ hk => hk) trivial (Below.refl _ _) (Nat.le_refl _) (by simp) ?_; (case hd => rfl); (case hg => rfl); (case hr => first | (go_simp; done) | (go_simp; rfl)); (case hp => exact (Reps.c2 (show Kd.M k63 _ _ _ (⟨t425, t426⟩ : S63) [.int .i64 t425, .int .i64 t426] from (k63_mkM _ _ _ (⟨t425, t426⟩ : S63) )) (Reps.none _ _)))
               intro v428 w38 ho39 hb hg_ hnew_
               clear hg_ hnew_
               (first | rw [← Ny427.out] at ho39 | (simp only [Int.reduceToNat] at ho39; rw [← Ny427.out] at ho39))
               have n0_ := Aside0.mk (Kd.R_below (G.cR HO_6.out) hb)
               have n1_ := Aside0.mk (Kd.V_elder' (G.cV HO_415001.out) (Kd.R_base ho39) hb)
               have n2_ := Aside0.mk (Kd.V_elder' (G.cV HO_423001.out) (Kd.R_base ho39) hb)
               have n3_ := Aside0.mk (Kd.R_lower (Kd.R_newM (M := fun k_ => (w.heap.size ≤ k_)) ho39 (below_size (G.cB HB.out)) (fun k_ h_ => h_)) (below_size (G.cB HB.out)))
               have n4_ := Aside0.mk (blk_below (g := gb414) (o := .cells #[.int .i64 a0_0, .slice A0_1 l0_1.length c0_1] 29 (0, 0)) (G.cb BK414.out) hb)
               have n5_ := Aside0.mk (blk_below (g := gb422) (o := .cells #[.int .i64 x423000_2, .slice Ao33 x423001_2.length co33] 29 (0, 0)) (G.cb BK422.out) hb)
               have n6_ := Aside0.mk (blk_below (g := gb434) (o := .cells #[.int .i64 0, .slice none 0 0] 29 (0, 0)) (G.cb BK434.out) hb)
               have n7_ := Aside0.mk (below_step (G.cB HB.out) hb)
               clear HO_6 HO_415001 HO_423001 BK414 BK422 BK434 HB
               revert n0_ n1_ n2_ n3_ n4_ n5_ n6_ n7_
               intro HO_6 HO_415001 HO_423001 HO429 BK414 BK422 BK434 HB
               clear hb ho39
               obtain ⟨Ao40, co40, eo40⟩ := Kd.R_slice HO429.out
               (first | subst eo40 | (injection eo40 with f1_ f2_ f3_; have f4_ := f1_.symm; have f5_ := f3_.symm; clear f1_ f2_ f3_; subst f4_; subst f5_))
               refine hK.out _ _ ⟨(blk_cell BK422.out 0).trans rfl, (blk_cell BK422.out 1).trans rfl⟩ (fun hHeld => ?_)
               clear hK K
               refine G.no (some 43) ?_
               refine one_ (i := 5) (N := some 44) (G.fl 8 127) rfl rfl (one_of HT_.out (c22_23)) (c22_24) (fun K hK => ?_)
               refine goes_ Try.func50 (c22_23) rfl #[.agg #[.int .i64 x423000_2, .slice Ao33 x423001_2.length co33], .slice Ao40 y427.length co40] (by rfl) rfl rfl (G.ar) ?_
               with_reducible refine (impl_Net_less.calls k2 x423000_2 _ _ x423001_2 _ _ y427 t430 t431 _ ?side1 ?side2 ?side3 ?side4 A27.out).mono ?_
               (case side1 => repeat (first | exact (Kd.V_reads' HO_423001.out).2.2 | (with_reducible refine Kd.C_alloc ?_ _) | (with_reducible refine Kd.C_drewN ?_ _) | (with_reducible refine Kd.C_drew ?_)))
               (case side2 => exact (Kd.V_reads' HO_423001.out).2.1)
               (case side3 => repeat (first | exact (Kd.R_reads' HO429.out).2.2 | (with_reducible refine Kd.C_alloc ?_ _) | (with_reducible refine Kd.C_drewN ?_ _) | (with_reducible refine Kd.C_drew ?_)))
               (case side4 => exact (Kd.R_reads' HO429.out).2.1)
               rintro e w41 ⟨v432, rfl, ho0, hb⟩
               refine ⟨_, rfl, ?_⟩
               have n0_ := Aside0.mk (Kd.R_below (G.cR HO_6.out) hb)
               have n1_ := Aside0.mk (Kd.V_elder' (G.cV HO_415001.out) (Kd.R_base ho0) hb)
               have n2_ := Aside0.mk (Kd.V_elder' (G.cV HO_423001.out) (Kd.R_base ho0) hb)
               have n3_ := Aside0.mk (Kd.R_elder' (G.cR HO429.out) (Kd.R_base ho0) hb)
               have n4_ := Aside0.mk (Kd.R_lower (Kd.R_new' (Kd.R_newM (M := fun k_ => (w.heap.size ≤ k_)) ho0 (below_size (G.cB HB.out)) (fun k_ h_ => h_)) (Kd.R_lt (G.cR HO429.out))) (below_size (G.cB HB.out)))
               have n5_ := Aside0.mk (blk_below (g := gb414) (o := .cells #[.int .i64 a0_0, .slice A0_1 l0_1.length c0_1] 29 (0, 0)) (G.cb BK414.out) hb)
               have n6_ := Aside0.mk (blk_below (g := gb422) (o := .cells #[.int .i64 x423000_2, .slice Ao33 x423001_2.length co33] 29 (0, 0)) (G.cb BK422.out) hb)
               have n7_ := Aside0.mk (blk_below (g := gb434) (o := .cells #[.int .i64 0, .slice none 0 0] 29 (0, 0)) (G.cb BK434.out) hb)
               have n8_ := Aside0.mk (below_step (G.cB HB.out) hb)
               clear HO_6 HO_415001 HO_423001 HO429 BK414 BK422 BK434 HB
               revert n0_ n1_ n2_ n3_ n4_ n5_ n6_ n7_ n8_
               intro HO_6 HO_415001 HO_423001 HO429 HO433 BK414 BK422 BK434 HB
               (try clear hb)
               (try clear hb2)
               (try clear hk)
               (try clear hi)
               (try clear ho0)
               refine hK.out _ _ ⟨(blk_cell BK422.out 0).trans rfl, (blk_cell BK422.out 1).trans rfl⟩ (fun hHeld => ?_)
               clear hK K
               refine G.no (some 44) ?_
               exact norm_ (by simp only [putAll, Act.put, List.setIfInBounds_toArray, List.set_cons_zero, List.set_cons_succ]) (hCont (.slice Ao40 y427.length co40, v432, gb434) _ ⟨hHeld, (c22_18), (c22_19), (c22_11), (c22_12), (G.cR HO_6.out), (G.cb BK414.out), (G.cb BK422.out), (G.cb BK434.out), GW434.out, GE434.out, NB414_434.out, NB434_414.out, NB422_434.out, NB434_422.out, (G.cB HB.out)⟩)
             rintro ⟨v428, v432, gb434⟩ w42 ⟨hS_, h0_, h1_, h2_, h3_, h4_, h5_, h6_, h7_, h8_, h9_, h10_, h11_, h12_, h13_, h14_⟩
             have n0_ : Aside0 (Kd.R k63 63 w42 w.heap.size (fun k_ => (w.heap.size ≤ k_) ∧ some k_ ≠ (v432 : Value).ownBlock) v428 y427) := ⟨h0_⟩
             have n1_ : Aside0 (Kd.R k63 63 w42 w.heap.size (fun k_ => (w.heap.size ≤ k_) ∧ some k_ ≠ (v428 : Value).ownBlock) v432 t431) := ⟨h1_⟩
             have n2_ : Aside0 (Kd.V k63 63 w42 w.heap.size (fun k_ => (P0_1_ k_ ∨ w.heap.size ≤ k_) ∧ some k_ ≠ (v428 : Value).ownBlock ∧ some k_ ≠ (v432 : Value).ownBlock ∧ some k_ ≠ (u6 : Value).ownBlock ∧ k_ ≠ gb414 ∧ k_ ≠ gb422 ∧ k_ ≠ gb434) (.slice A0_1 l0_1.length c0_1) l0_1) := ⟨h2_⟩
             have n3_ : Aside0 (Kd.V k63 63 w42 w.heap.size (fun k_ => (P0_1_ k_ ∨ w.heap.size ≤ k_) ∧ some k_ ≠ (v428 : Value).ownBlock ∧ some k_ ≠ (v432 : Value).ownBlock ∧ some k_ ≠ (u6 : Value).ownBlock ∧ k_ ≠ gb414 ∧ k_ ≠ gb422 ∧ k_ ≠ gb434) (.slice Ao33 x423001_2.length co33) x423001_2) := ⟨h3_⟩
             have n4_ : Aside0 (Kd.R (Kd.int .i64) 3 w42 w.heap.size (fun k_ => (w.heap.size ≤ k_)) u6 x6_2) := ⟨h4_⟩
             have n5_ : Aside0 (w42.heap[gb414]? = some (.cells #[.int .i64 a0_0, .slice A0_1 l0_1.length c0_1] 29 (0, 0))) := ⟨h5_⟩
             have n6_ : Aside0 (w42.heap[gb422]? = some (.cells #[.int .i64 x423000_2, .slice Ao33 x423001_2.length co33] 29 (0, 0))) := ⟨h6_⟩
             have n7_ : Aside0 (w42.heap[gb434]? = some (.cells #[.int .i64 0, .slice none 0 0] 29 (0, 0))) := ⟨h7_⟩
             have n8_ : Aside0 (w.heap.size ≤ gb434) := ⟨h8_⟩
             have n9_ : Aside0 (w.heap.size ≤ gb434) := ⟨h9_⟩
             have n10_ : Aside0 (gb414 ≠ gb434) := ⟨h10_⟩
             have n11_ : Aside0 (gb434 ≠ gb414) := ⟨h11_⟩
             have n12_ : Aside0 (gb422 ≠ gb434) := ⟨h12_⟩
             have n13_ : Aside0 (gb434 ≠ gb422) := ⟨h13_⟩
             have n14_ : Aside0 (Below w.heap.size w w42) := ⟨h14_⟩
             clear HO_6 HO_415001 HO_423001 BK414 BK422 HB
             clear h0_ h1_ h2_ h3_ h4_ h5_ h6_ h7_ h8_ h9_ h10_ h11_ h12_ h13_ h14_
             revert n0_ n1_ n2_ n3_ n4_ n5_ n6_ n7_ n8_ n9_ n10_ n11_ n12_ n13_ n14_
             intro HO429 HO433 HO_415001 HO_423001 HO_6 BK414 BK422 BK434 GW434 GE434 NB414_434 NB434_414 NB422_434 NB434_422 HB
             have hHeld : w42.cell? ⟨gb422, 0, none⟩ = some (.int .i64 x423000_2) ∧ w42.cell? ⟨gb422, 1, none⟩ = some (.slice Ao33 x423001_2.length co33) := hS_
             obtain ⟨Ao44, co44, eo44⟩ := Kd.R_slice HO433.out
             (first | subst eo44 | (injection eo44 with f1_ f2_ f3_; have f4_ := f1_.symm; have f5_ := f3_.symm; clear f1_ f2_ f3_; subst f4_; subst f5_))
             refine norm_ (a' := ?_) ?_ ?_
             rotate_left
             ·simp only [putAll, Act.put, List.setIfInBounds_toArray, List.set_cons_zero, List.set_cons_succ]
              rfl
             refine one_ (i := 7) (N := none) (G.fl 8 255) rfl rfl (one_of HT_.out (c22_23)) (c22_24) (fun K hK => ?_)
             have hs43 : w42.cell? ⟨gb434, 0, none⟩ = some (.int .i64 0) := (blk_cell BK434.out 0).trans rfl
             have hfs43 := blk_frozen BK434.out 0
             have hns43_0 := NB414_434.out
             have hns43_1 := NB422_434.out
             have hms43_0 := NB434_414.out
             have hms43_1 := NB434_422.out
             have hs45 : w42.cell? ⟨gb434, 1, none⟩ = some (.slice none 0 0) := (blk_cell BK434.out 1).trans rfl
             have hfs45 := blk_frozen BK434.out 1
             have hns45_0 := NB414_434.out
             have hns45_1 := NB422_434.out
             have hms45_0 := NB434_414.out
             have hms45_1 := NB434_422.out
             refine skip_ (w1 := ?_) (by rfl) rfl ?_ ?_
             rotate_left
             ·go_simp
              rfl
             refine hK.out _ _ ⟨((cell_far (p := ⟨gb434, _, none⟩) NB422_434.out _).trans (((cell_far (p := ⟨gb434, _, none⟩) NB422_434.out _).trans (hHeld.1)))), ((cell_far (p := ⟨gb434, _, none⟩) NB422_434.out _).trans (((cell_far (p := ⟨gb434, _, none⟩) NB422_434.out _).trans (hHeld.2))))⟩ (fun hHeld => ?_)
             clear hK K
             refine done_ (done_of HT_.out (c22_23)) ?_
             have hnb46 := NB434_414.out
             have hnc46 := NB414_434.out
             have hnb47 := NB434_422.out
             have hnc47 := NB422_434.out
             have hcz48_0 : w42.cell? ⟨gb434, 0, none⟩ = some (.int .i64 0) := (blk_cell BK434.out 0).trans rfl
             have hcz48_1 : w42.cell? ⟨gb434, 1, none⟩ = some (.slice none 0 0) := (blk_cell BK434.out 1).trans rfl
             have hfz48_0 := blk_frozen BK434.out 0
             have hfz48_1 := blk_frozen BK434.out 1
             try go_wp2_with (first | ((with_reducible refine gate_callee (f := 44) rfl ?_); refine goesL_ (some 47) rfl rfl Try.func44 (c22_23) rfl #[.agg #[.int .i64 t430, .slice Ao44 t431.length co44], .int .i64 x31_2] rfl (G.ar) ?_; (with_reducible refine (impl_Net_trail.calls k2 t430 _ _ t431 x31_2 true _ ?side1 ?side2 A28.out).mono ?_); (case side1 => refine (Kd.R_reads' (e := 63) (base := w.heap.size) (ok := fun k_ => ((w.heap.size ≤ k_) ∧ some k_ ≠ (v428 : Value).ownBlock)) (n := t431.length) (c := co44) ?_).2.2; exact (c22_5)); (case side2 => exact (Kd.R_reads' HO433.out).2.1); rintro e w49 ⟨rfl, hb⟩; refine ⟨_, rfl, ?_⟩; have n0_ := Aside0.mk (Kd.R_below (by (with_reducible repeat (first | apply Kd.R_alloc | apply Kd.R_drewN | apply Kd.R_drew)); exact (Kd.R_mono (Kd.R_far (p := ⟨gb434, 1, none⟩) (Kd.R_far (p := ⟨gb434, 0, none⟩) (Kd.R_types HO_6.out BK434.out (c22_24)) (fun _ hk => hk.2) (.int .i64 t430)) (fun _ hk => hk.2) (.slice Ao44 t431.length co44)) (fun _ h_ => h_.1))) hb); have n1_ := Aside0.mk (Kd.V_below (by (with_reducible repeat (first | apply Kd.V_alloc | apply Kd.V_drewN | apply Kd.V_drew)); exact (Kd.V_mono (Kd.V_far (p := ⟨gb434, 1, none⟩) (Kd.V_far (p := ⟨gb434, 0, none⟩) (Kd.V_mono HO_415001.out (fun k_ hk => (⟨hk, hk.2.2.2.2.2.2⟩ : _ ∧ k_ ≠ gb434))) (fun _ hk => hk.2) (.int .i64 t430)) (fun _ hk => hk.2) (.slice Ao44 t431.length co44)) (fun _ h_ => h_.1))) hb); have n2_ := Aside0.mk (Kd.V_below (by (with_reducible repeat (first | apply Kd.V_alloc | apply Kd.V_drewN | apply Kd.V_drew)); exact (Kd.V_mono (Kd.V_far (p := ⟨gb434, 1, none⟩) (Kd.V_far (p := ⟨gb434, 0, none⟩) (Kd.V_mono HO_423001.out (fun k_ hk => (⟨hk, hk.2.2.2.2.2.2⟩ : _ ∧ k_ ≠ gb434))) (fun _ hk => hk.2) (.int .i64 t430)) (fun _ hk => hk.2) (.slice Ao44 t431.length co44)) (fun _ h_ => h_.1))) hb); have n3_ := Aside0.mk (Kd.R_below (by (with_reducible repeat (first | apply Kd.R_alloc | apply Kd.R_drewN | apply Kd.R_drew)); exact (Kd.R_mono (Kd.R_far (p := ⟨gb434, 1, none⟩) (Kd.R_far (p := ⟨gb434, 0, none⟩) (Kd.R_types HO429.out BK434.out (c22_24)) (fun _ hk => hk.2) (.int .i64 t430)) (fun _ hk => hk.2) (.slice Ao44 t431.length co44)) (fun _ h_ => h_.1))) hb); have n4_ := Aside0.mk (Kd.R_below (c22_5) hb); have n5_ := Aside0.mk (blk_below (g := gb414) (o := .cells #[.int .i64 a0_0, .slice A0_1 l0_1.length c0_1] 29 (0, 0)) (c22_2) hb); have n6_ := Aside0.mk (blk_below (g := gb422) (o := .cells #[.int .i64 x423000_2, .slice Ao33 x423001_2.length co33] 29 (0, 0)) (c22_3) hb); have n7_ := Aside0.mk (blk_below (g := gb434) (o := .cells #[.int .i64 t430, .slice Ao44 t431.length co44] 29 (0, 0)) (c22_0) hb); have n8_ := Aside0.mk (below_step (G.cB HB.out) hb); clear HO_6 HO_415001 HO_423001 HO429 HO433 BK414 BK422 BK434 HB; revert n0_ n1_ n2_ n3_ n4_ n5_ n6_ n7_ n8_; intro HO_6 HO_415001 HO_423001 HO429 HO433 BK414 BK422 BK434 HB; (try clear hb); (try clear hb2); (try clear hk); (try clear hi)) | ((with_reducible refine gate_builtin (b := .append) (xs := #[.tmp 48, .tmp 50]) rfl ?_); at_builtin; refine Kd.R_append (Kd.int .i64) (w0 := w) w.heap.size rfl (.tmp 48) (.tmp 50) 33 3 (.int .i64 0) 8 rfl Try.underlying33 info3 rfl (c22_24) (by omega) u6 x6_2 x31_2 [.int .i64 x31_2] (fun k_ => (w.heap.size ≤ k_)) (fun _ => False) rfl rfl ?aP (fun _ hk => hk.elim) ?aF ?aO ?aB ?aS ?aL ?_; (case aP => exact rfl); (case aB => exact (G.cB HB.out)); (case aF => exact (fun k_ hk => (Nat.le_trans (below_size (G.cB HB.out)) hk))); (case aO => exact (G.cR HO_6.out)); (case aS => exact (below_size (G.cB HB.out))); (case aL => have := LMc30.out; omega); intro v437 w50 ho hb hg hat; rw [← Ny436.out] at ho; have n0_ := Aside0.mk (Kd.V_afterv (ok := (fun k_ => (P0_1_ k_ ∨ w.heap.size ≤ k_) ∧ some k_ ≠ (v428 : Value).ownBlock ∧ some k_ ≠ (.slice Ao44 t431.length co44 : Value).ownBlock ∧ k_ ≠ gb414 ∧ k_ ≠ gb422 ∧ k_ ≠ gb434)) (by (with_reducible repeat (first | apply Kd.V_alloc | apply Kd.V_drewN | apply Kd.V_drew)); exact Kd.V_mono HO_415001.out (fun _ hk => ⟨⟨hk.1, ⟨hk.2.1, ⟨hk.2.2.1, ⟨hk.2.2.2.2.1, ⟨hk.2.2.2.2.2.1, hk.2.2.2.2.2.2⟩⟩⟩⟩⟩, hk.2.2.2.1⟩)) hg hat); have n1_ := Aside0.mk (Kd.V_afterv (ok := (fun k_ => (P0_1_ k_ ∨ w.heap.size ≤ k_) ∧ some k_ ≠ (v428 : Value).ownBlock ∧ some k_ ≠ (.slice Ao44 t431.length co44 : Value).ownBlock ∧ k_ ≠ gb414 ∧ k_ ≠ gb422 ∧ k_ ≠ gb434)) (by (with_reducible repeat (first | apply Kd.V_alloc | apply Kd.V_drewN | apply Kd.V_drew)); exact Kd.V_mono HO_423001.out (fun _ hk => ⟨⟨hk.1, ⟨hk.2.1, ⟨hk.2.2.1, ⟨hk.2.2.2.2.1, ⟨hk.2.2.2.2.2.1, hk.2.2.2.2.2.2⟩⟩⟩⟩⟩, hk.2.2.2.1⟩)) hg hat); have n2_ := Aside0.mk (blk_grown (g := gb414) (o := .cells #[.int .i64 a0_0, .slice A0_1 l0_1.length c0_1] 29 (0, 0)) (G.cb BK414.out) hg (Kd.R_ne HO_6.out BK414.out (c22_24))); have n3_ := Aside0.mk (blk_grown (g := gb422) (o := .cells #[.int .i64 x423000_2, .slice Ao33 x423001_2.length co33] 29 (0, 0)) (G.cb BK422.out) hg (Kd.R_ne HO_6.out BK422.out (c22_24))); have n4_ := Aside0.mk (Kd.R_over' (G.cR HO429.out) (Kd.R_typed (G.cR HO_6.out)) (c22_24) hg); have n5_ := Aside0.mk (Kd.R_over' (G.cR HO433.out) (Kd.R_typed (G.cR HO_6.out)) (c22_24) hg); have n6_ := Aside0.mk (blk_grown (g := gb434) (o := .cells #[.int .i64 t430, .slice Ao44 t431.length co44] 29 (0, 0)) (G.cb BK434.out) hg (Kd.R_ne HO_6.out BK434.out (c22_24))); have n7_ := Aside0.mk (hb); have n8_ := Aside0.mk (ho); clear HO_415001 HO_423001 BK414 BK422 HO429 HO433 BK434 HB HO_6; revert n0_ n1_ n2_ n3_ n4_ n5_ n6_ n7_ n8_; intro HO_415001 HO_423001 BK414 BK422 HO429 HO433 BK434 HB HO438; clear ho hb hg hat; have hcz51_0 : w50.cell? ⟨gb434, 0, none⟩ = some (.int .i64 t430) := (blk_cell BK434.out 0).trans rfl; have hcz51_1 : w50.cell? ⟨gb434, 1, none⟩ = some (.slice Ao44 t431.length co44) := (blk_cell BK434.out 1).trans rfl; have hfz51_0 := blk_frozen BK434.out 0; have hfz51_1 := blk_frozen BK434.out 1; have hcz52_0 : w50.cell? ⟨gb422, 0, none⟩ = some (.int .i64 x423000_2) := (blk_cell BK422.out 0).trans rfl; have hcz52_1 : w50.cell? ⟨gb422, 1, none⟩ = some (.slice Ao33 x423001_2.length co33) := (blk_cell BK422.out 1).trans rfl; have hfz52_0 := blk_frozen BK422.out 0; have hfz52_1 := blk_frozen BK422.out 1))
             go_roundg k2
             case measure => have := HK1.out; have := HK2.out; omega
             case rel => exact ⟨(y436), (t430), (t431), (.slice Ao44 t431.length co44), H', ⟨by have := HK1.out; have := HK2.out; omega⟩, ⟨by (with_reducible repeat (first | apply Kd.R_alloc | apply Kd.R_drewN | apply Kd.R_drew)); exact Kd.R_mono (Kd.R_far (p := ⟨gb422, 1, none⟩) (Kd.R_far (p := ⟨gb422, 0, none⟩) (Kd.R_types HO438.out BK422.out (c22_24)) (fun _ hk => hk.2) (.int .i64 t430)) (fun _ hk => hk.2) (.slice Ao44 t431.length co44)) (fun _ hk => hk.1)⟩, ⟨by (with_reducible repeat (first | apply Kd.V_alloc | apply Kd.V_drewN | apply Kd.V_drew)); exact Kd.V_mono (Kd.V_far (p := ⟨gb422, 1, none⟩) (Kd.V_far (p := ⟨gb422, 0, none⟩) (Kd.V_mono HO_415001.out (fun k_ hk => (⟨hk, hk.1.2.2.2.2.1⟩ : _ ∧ k_ ≠ gb422))) (fun _ hk => hk.2) (.int .i64 t430)) (fun _ hk => hk.2) (.slice Ao44 t431.length co44)) (fun _ hk => ⟨hk.1.1.1, ⟨hk.1.2, ⟨hk.1.1.2.2.2.1, hk.1.1.2.2.2.2.1⟩⟩⟩)⟩, ⟨G.RV2 (by (with_reducible repeat (first | apply Kd.R_alloc | apply Kd.R_drewN | apply Kd.R_drew)); exact Kd.R_mono (Kd.R_far (p := ⟨gb422, 1, none⟩) (Kd.R_far (p := ⟨gb422, 0, none⟩) (Kd.R_types (Kd.R_types (Kd.R_types (Kd.R_apart' HO433.out (Kd.R_typed HO438.out) (c22_24)) BK414.out (c22_24)) BK422.out (c22_24)) BK422.out (c22_24)) (fun _ hk => hk.2) (.int .i64 t430)) (fun _ hk => hk.2) (.slice Ao44 t431.length co44)) (fun _ hk => ⟨hk.1.1.1.1.1, ⟨hk.1.1.1.2, ⟨hk.1.1.2, hk.1.2⟩⟩⟩))⟩, ⟨c22_1⟩, ⟨by (with_reducible repeat (first | refine blk_drewN ?_ _ | refine blk_drew ?_ | refine blk_alloc ?_ _)); refine blk_put (cs := #[.int .i64 t430, .slice Ao33 x423001_2.length co33]) ?_ 1 _ rfl; (with_reducible repeat (first | refine blk_drewN ?_ _ | refine blk_drew ?_ | refine blk_alloc ?_ _)); refine blk_put (cs := #[.int .i64 x423000_2, .slice Ao33 x423001_2.length co33]) ?_ 0 _ rfl; (with_reducible repeat (first | refine blk_drewN ?_ _ | refine blk_drew ?_ | refine blk_alloc ?_ _)); exact BK422.out⟩, ⟨G.cB HB.out⟩⟩
            ·rw [if_neg c30] at H
             exact absurd H (by simp)
           ·replace c29 := Bool.eq_false_iff.mpr c29
            subst c29
            have H1 : (impl_TrailOf.l1 k2 x6_2 (rd x6_1 (ji15)) a0_0 (wrap64 (x31_2 + 1)) a0_0 l0_1 x423000_2 x423001_2) = some (r1, r2) := by rw [if_neg (show ¬ (false = true) by decide)] at H; exact H
            clear H
            have H := H1
            clear H1
            have H' := Aside0.mk H
            clear H
            have hnb53 := NB422_414.out
            have hnc53 := NB414_422.out
            have hcz54_0 : wr.cell? ⟨gb422, 0, none⟩ = some (.int .i64 x423000_2) := (blk_cell BK422.out 0).trans rfl
            have hcz54_1 : wr.cell? ⟨gb422, 1, none⟩ = some (u423001) := (blk_cell BK422.out 1).trans rfl
            have hfz54_0 := blk_frozen BK422.out 0
            have hfz54_1 := blk_frozen BK422.out 1
            obtain ⟨Ao55, co55, eo55⟩ := Kd.V_slice HO_423001.out
            subst eo55
            try go_wp2_with (first | ((with_reducible refine gate_callee (f := 52) rfl ?_); refine goesL_ (some 37) rfl rfl Try.func52 (c22_23) rfl #[.agg #[.int .i64 x423000_2, .slice Ao55 x423001_2.length co55], .int .i64 (rd x6_1 (ji15)), .int .i64 x31_2] rfl (c22_13) ?_; (with_reducible refine (impl_Net_has.calls k2 x423000_2 _ _ x423001_2 (rd x6_1 (ji15)) x31_2 true _ ?side1 ?side2 A24.out).mono ?_); (case side1 => repeat (first | exact (Kd.V_reads' HO_423001.out).2.2 | (with_reducible refine Kd.C_alloc ?_ _) | (with_reducible refine Kd.C_drewN ?_ _) | (with_reducible refine Kd.C_drew ?_))); (case side2 => exact (Kd.V_reads' HO_423001.out).2.1); rintro e w56 ⟨rfl, hb⟩; refine ⟨_, rfl, ?_⟩; have n0_ := Aside0.mk (Kd.R_below (G.cR HO_6.out) hb); have n1_ := Aside0.mk (Kd.V_below (G.cV HO_415001.out) hb); have n2_ := Aside0.mk (Kd.V_below (G.cV HO_423001.out) hb); have n3_ := Aside0.mk (blk_below (g := gb414) (o := .cells #[.int .i64 a0_0, .slice A0_1 l0_1.length c0_1] 29 (0, 0)) (G.cb BK414.out) hb); have n4_ := Aside0.mk (blk_below (g := gb422) (o := .cells #[.int .i64 x423000_2, .slice Ao55 x423001_2.length co55] 29 (0, 0)) (G.cb BK422.out) hb); have n5_ := Aside0.mk (below_step (G.cB HB.out) hb); clear HO_6 HO_415001 HO_423001 BK414 BK422 HB; revert n0_ n1_ n2_ n3_ n4_ n5_; intro HO_6 HO_415001 HO_423001 BK414 BK422 HB; (try clear hb); (try clear hb2); (try clear hk); (try clear hi)))
            have n0_ := Aside0.mk (Kd.R_drew HO_6.out)
            have n1_ := Aside0.mk (Kd.V_drew HO_415001.out)
            have n2_ := Aside0.mk (Kd.V_drew HO_423001.out)
            have n3_ := Aside0.mk (blk_drew BK414.out)
            have n4_ := Aside0.mk (blk_drew BK422.out)
            have n5_ := Aside0.mk (below_drew1 HB.out)
            clear HO_6 HO_415001 HO_423001 BK414 BK422 HB
            revert n0_ n1_ n2_ n3_ n4_ n5_
            intro HO_6 HO_415001 HO_423001 BK414 BK422 HB
            refine start_ (n := 8) (S := fun w' => w'.cell? ⟨gb422, 0, none⟩ = some (.int .i64 x423000_2) ∧ w'.cell? ⟨gb422, 1, none⟩ = some (.slice Ao55 x423001_2.length co55)) (ds := []) (G.fl 8 0) (c22_23) rfl (c22_23) ⟨(blk_cell BK422.out 0).trans rfl, (blk_cell BK422.out 1).trans rfl⟩ (fun hHeld => ?_); refine with_tabW impl_TrailOf.tab11 impl_TrailOf.bits11 (fun HT_ HW_ => ?_)
            generalize w56.drew = w57 at HO_6 HO_415001 HO_423001 BK414 BK422 HB hHeld ⊢
            refine G.pu 1 (some 40) (G.fl 8 2) ?_
            refine G.pu 2 (some 41) (G.fl 8 6) ?_
            refine G.ta2 0 (some 39) (G.fl 8 7) ?_
            refine join_ (σ := Value × Value × Nat) 1 #[true, true, true, true, true, true, true, false] (fun s_ => [(42, .agg #[.int .i64 t425, .int .i64 t426]), (43, s_.1), (44, .agg #[.int .i64 t430, s_.2.1]), (10, .pointer (some ⟨s_.2.2, 0, none⟩))]) (fun s_ w' => (w'.cell? ⟨gb422, 0, none⟩ = some (.int .i64 x423000_2) ∧ w'.cell? ⟨gb422, 1, none⟩ = some (.slice Ao55 x423001_2.length co55)) ∧ (Kd.R k63 63 w' w.heap.size (fun k_ => (w.heap.size ≤ k_) ∧ some k_ ≠ (s_.2.1 : Value).ownBlock) s_.1 y427) ∧ (Kd.R k63 63 w' w.heap.size (fun k_ => (w.heap.size ≤ k_) ∧ some k_ ≠ (s_.1 : Value).ownBlock) s_.2.1 t431) ∧ (Kd.V k63 63 w' w.heap.size (fun k_ => (P0_1_ k_ ∨ w.heap.size ≤ k_) ∧ some k_ ≠ (s_.1 : Value).ownBlock ∧ some k_ ≠ (s_.2.1 : Value).ownBlock ∧ some k_ ≠ (u6 : Value).ownBlock ∧ k_ ≠ gb414 ∧ k_ ≠ gb422 ∧ k_ ≠ s_.2.2) (.slice A0_1 l0_1.length c0_1) l0_1) ∧ (Kd.V k63 63 w' w.heap.size (fun k_ => (P0_1_ k_ ∨ w.heap.size ≤ k_) ∧ some k_ ≠ (s_.1 : Value).ownBlock ∧ some k_ ≠ (s_.2.1 : Value).ownBlock ∧ some k_ ≠ (u6 : Value).ownBlock ∧ k_ ≠ gb414 ∧ k_ ≠ gb422 ∧ k_ ≠ s_.2.2) (.slice Ao55 x423001_2.length co55) x423001_2) ∧ (Kd.R (Kd.int .i64) 3 w' w.heap.size (fun k_ => (w.heap.size ≤ k_)) u6 x6_2) ∧ (w'.heap[gb414]? = some (.cells #[.int .i64 a0_0, .slice A0_1 l0_1.length c0_1] 29 (0, 0))) ∧ (w'.heap[gb422]? = some (.cells #[.int .i64 x423000_2, .slice Ao55 x423001_2.length co55] 29 (0, 0))) ∧ (w'.heap[s_.2.2]? = some (.cells #[.int .i64 0, .slice none 0 0] 29 (0, 0))) ∧ (w.heap.size ≤ s_.2.2) ∧ (w.heap.size ≤ s_.2.2) ∧ (gb414 ≠ s_.2.2) ∧ (s_.2.2 ≠ gb414) ∧ (gb422 ≠ s_.2.2) ∧ (s_.2.2 ≠ gb422) ∧ (Below w.heap.size w w')) ?_ ?_
            rotate_left
            ·intro hCont
             refine two_ (i := 3) (j := 6) (Ni := some 42) (Nj := some 10) #[true, true, true, true, false, false, false, false] #[true, true, true, false, false, false, true, false] rfl rfl rfl rfl (two_of HT_.out (c22_23)) (c22_24) (c22_24) (fun K hK => ?_) (fun K hK => ?_)
             ·skip
              refine goes_ Try.func51 (c22_23) rfl #[.int .i64 (rd x6_1 (ji15)), .int .i64 x31_2] (by rfl) rfl rfl (c22_13) ?_
              with_reducible refine (impl_tie.calls (rd x6_1 (ji15)) x31_2 t425 t426 _ A26.out).mono ?_
              rintro e w58 ⟨rfl, hb⟩
              refine ⟨_, rfl, ?_⟩
              have n0_ := Aside0.mk (Kd.R_below (G.cR HO_6.out) hb)
              have n1_ := Aside0.mk (Kd.V_below (G.cV HO_415001.out) hb)
              have n2_ := Aside0.mk (Kd.V_below (G.cV HO_423001.out) hb)
              have n3_ := Aside0.mk (blk_below (g := gb414) (o := .cells #[.int .i64 a0_0, .slice A0_1 l0_1.length c0_1] 29 (0, 0)) (G.cb BK414.out) hb)
              have n4_ := Aside0.mk (blk_below (g := gb422) (o := .cells #[.int .i64 x423000_2, .slice Ao55 x423001_2.length co55] 29 (0, 0)) (G.cb BK422.out) hb)
              have n5_ := Aside0.mk (below_step (G.cB HB.out) hb)
              clear HO_6 HO_415001 HO_423001 BK414 BK422 HB
              revert n0_ n1_ n2_ n3_ n4_ n5_
              intro HO_6 HO_415001 HO_423001 BK414 BK422 HB
              (try clear hb)
              (try clear hb2)
              (try clear hk)
              (try clear hi)
              refine hK.out _ _ ⟨(blk_cell BK422.out 0).trans rfl, (blk_cell BK422.out 1).trans rfl⟩ (fun hHeld => ?_)
              clear hK K
              refine G.no (some 42) ?_
              refine two_ (i := 4) (j := 6) (Ni := some 43) (Nj := some 10) #[true, true, true, true, true, false, false, false] #[true, true, true, true, false, false, true, false] rfl rfl rfl rfl (two_of HT_.out (c22_23)) (c22_24) (c22_24) (fun K hK => ?_) (fun K hK => ?_)
              ·skip
               refine Kd.R_lit_step k63 _ 63 ?hg (N := 43) ?hd (xs := ([(⟨t425, t426⟩ : S63)] : List (S63))) (inner := [.int .i64 t425, .int .i64 t426]) (ok := fun _ => True) (okp := fun _ => True) ?hr ?hp (fun _ hk => hk) trivial (Below.refl _ _) (Nat.le_refl _) (by simp) ?_; (case hd => rfl); (case hg => rfl); (case hr => first | (go_simp; done) | (go_simp; rfl)); (case hp => exact (Reps.c2 (show Kd.M k63 _ _ _ (⟨t425, t426⟩ : S63) [.int .i64 t425, .int .i64 t426] from (k63_mkM _ _ _ (⟨t425, t426⟩ : S63) )) (Reps.none _ _)))
               intro v428 w59 ho60 hb hg_ hnew_
               clear hg_ hnew_
               (first | rw [← Ny427.out] at ho60 | (simp only [Int.reduceToNat] at ho60; rw [← Ny427.out] at ho60))
               have n0_ := Aside0.mk (Kd.R_below (G.cR HO_6.out) hb)
               have n1_ := Aside0.mk (Kd.V_elder' (G.cV HO_415001.out) (Kd.R_base ho60) hb)
               have n2_ := Aside0.mk (Kd.V_elder' (G.cV HO_423001.out) (Kd.R_base ho60) hb)
               have n3_ := Aside0.mk (Kd.R_lower (Kd.R_newM (M := fun k_ => (w.heap.size ≤ k_)) ho60 (below_size (G.cB HB.out)) (fun k_ h_ => h_)) (below_size (G.cB HB.out)))
               have n4_ := Aside0.mk (blk_below (g := gb414) (o := .cells #[.int .i64 a0_0, .slice A0_1 l0_1.length c0_1] 29 (0, 0)) (G.cb BK414.out) hb)
               have n5_ := Aside0.mk (blk_below (g := gb422) (o := .cells #[.int .i64 x423000_2, .slice Ao55 x423001_2.length co55] 29 (0, 0)) (G.cb BK422.out) hb)
               have n6_ := Aside0.mk (below_step (G.cB HB.out) hb)
               clear HO_6 HO_415001 HO_423001 BK414 BK422 HB
               revert n0_ n1_ n2_ n3_ n4_ n5_ n6_
               intro HO_6 HO_415001 HO_423001 HO429 BK414 BK422 HB
               clear hb ho60
               obtain ⟨Ao61, co61, eo61⟩ := Kd.R_slice HO429.out
               (first | subst eo61 | (injection eo61 with f1_ f2_ f3_; have f4_ := f1_.symm; have f5_ := f3_.symm; clear f1_ f2_ f3_; subst f4_; subst f5_))
               refine hK.out _ _ ⟨(blk_cell BK422.out 0).trans rfl, (blk_cell BK422.out 1).trans rfl⟩ (fun hHeld => ?_)
               clear hK K
               refine G.no (some 43) ?_
               refine two_ (i := 5) (j := 6) (Ni := some 44) (Nj := some 10) #[true, true, true, true, true, true, false, false] #[true, true, true, true, true, false, true, false] rfl rfl rfl rfl (two_of HT_.out (c22_23)) (c22_24) (c22_24) (fun K hK => ?_) (fun K hK => ?_)
               ·skip
                refine goes_ Try.func50 (c22_23) rfl #[.agg #[.int .i64 x423000_2, .slice Ao55 x423001_2.length co55], .slice Ao61 y427.length co61] (by rfl) rfl rfl (G.ar) ?_
                with_reducible refine (impl_Net_less.calls k2 x423000_2 _ _ x423001_2 _ _ y427 t430 t431 _ ?side1 ?side2 ?side3 ?side4 A27.out).mono ?_
                (case side1 => repeat (first | exact (Kd.V_reads' HO_423001.out).2.2 | (with_reducible refine Kd.C_alloc ?_ _) | (with_reducible refine Kd.C_drewN ?_ _) | (with_reducible refine Kd.C_drew ?_)))
                (case side2 => exact (Kd.V_reads' HO_423001.out).2.1)
                (case side3 => repeat (first | exact (Kd.R_reads' HO429.out).2.2 | (with_reducible refine Kd.C_alloc ?_ _) | (with_reducible refine Kd.C_drewN ?_ _) | (with_reducible refine Kd.C_drew ?_)))
                (case side4 => exact (Kd.R_reads' HO429.out).2.1)
                rintro e w62 ⟨v432, rfl, ho0, hb⟩
                refine ⟨_, rfl, ?_⟩
                have n0_ := Aside0.mk (Kd.R_below (G.cR HO_6.out) hb)
                have n1_ := Aside0.mk (Kd.V_elder' (G.cV HO_415001.out) (Kd.R_base ho0) hb)
                have n2_ := Aside0.mk (Kd.V_elder' (G.cV HO_423001.out) (Kd.R_base ho0) hb)
                have n3_ := Aside0.mk (Kd.R_elder' (G.cR HO429.out) (Kd.R_base ho0) hb)
                have n4_ := Aside0.mk (Kd.R_lower (Kd.R_new' (Kd.R_newM (M := fun k_ => (w.heap.size ≤ k_)) ho0 (below_size (G.cB HB.out)) (fun k_ h_ => h_)) (Kd.R_lt (G.cR HO429.out))) (below_size (G.cB HB.out)))
                have n5_ := Aside0.mk (blk_below (g := gb414) (o := .cells #[.int .i64 a0_0, .slice A0_1 l0_1.length c0_1] 29 (0, 0)) (G.cb BK414.out) hb)
                have n6_ := Aside0.mk (blk_below (g := gb422) (o := .cells #[.int .i64 x423000_2, .slice Ao55 x423001_2.length co55] 29 (0, 0)) (G.cb BK422.out) hb)
                have n7_ := Aside0.mk (below_step (G.cB HB.out) hb)
                clear HO_6 HO_415001 HO_423001 HO429 BK414 BK422 HB
                revert n0_ n1_ n2_ n3_ n4_ n5_ n6_ n7_
                intro HO_6 HO_415001 HO_423001 HO429 HO433 BK414 BK422 HB
                (try clear hb)
                (try clear hb2)
                (try clear hk)
                (try clear hi)
                (try clear ho0)
                refine hK.out _ _ ⟨(blk_cell BK422.out 0).trans rfl, (blk_cell BK422.out 1).trans rfl⟩ (fun hHeld => ?_)
                clear hK K
                refine G.no (some 44) ?_
                refine one_ (i := 6) (N := some 10) (G.fl 8 127) rfl rfl (one_of HT_.out (c22_23)) (c22_24) (fun K hK => ?_)
                refine box_step ?hg (N := 10) ?hd (cs := #[.int .i64 0, .slice none 0 0]) (t := 29) ?hr ?_; (case hd => rfl); (case hg => rfl); (case hr => first | (go_simp; done) | (go_simp; rfl))
                intro gb434 hg w63 hbox hb
                have n0_ := Aside0.mk (Kd.R_below (G.cR HO_6.out) hb)
                have n1_ := Aside0.mk (Kd.V_below (Kd.V_elderB (G.cV HO_415001.out) gb434 (Nat.le_of_eq hg.symm)) hb)
                have n2_ := Aside0.mk (Kd.V_below (Kd.V_elderB (G.cV HO_423001.out) gb434 (Nat.le_of_eq hg.symm)) hb)
                have n3_ := Aside0.mk (Kd.R_below (G.cR HO429.out) hb)
                have n4_ := Aside0.mk (Kd.R_below (G.cR HO433.out) hb)
                have n5_ := Aside0.mk (blk_below (g := gb414) (o := .cells #[.int .i64 a0_0, .slice A0_1 l0_1.length c0_1] 29 (0, 0)) (G.cb BK414.out) hb)
                have n6_ := Aside0.mk (blk_below (g := gb422) (o := .cells #[.int .i64 x423000_2, .slice Ao55 x423001_2.length co55] 29 (0, 0)) (G.cb BK422.out) hb)
                have n7_ := Aside0.mk (below_step (G.cB HB.out) hb)
                have n8_ := Aside0.mk (hbox)
                have n9_ := Aside0.mk ((c22_22 : w.heap.size ≤ gb434))
                have n10_ := Aside0.mk ((c22_22 : w.heap.size ≤ gb434))
                have n11_ := Aside0.mk ((c22_20 : gb414 ≠ gb434))
                have n12_ := Aside0.mk ((c22_21 : gb434 ≠ gb414))
                have n13_ := Aside0.mk ((c22_16 : gb422 ≠ gb434))
                have n14_ := Aside0.mk ((c22_17 : gb434 ≠ gb422))
                clear HO_6 HO_415001 HO_423001 HO429 HO433 BK414 BK422 HB
                revert n0_ n1_ n2_ n3_ n4_ n5_ n6_ n7_ n8_ n9_ n10_ n11_ n12_ n13_ n14_
                intro HO_6 HO_415001 HO_423001 HO429 HO433 BK414 BK422 HB BK434 GW434 GE434 NB414_434 NB434_414 NB422_434 NB434_422
                clear hb hbox hg
                refine hK.out _ _ ⟨(blk_cell BK422.out 0).trans rfl, (blk_cell BK422.out 1).trans rfl⟩ (fun hHeld => ?_)
                clear hK K
                refine G.no (some 10) ?_
                exact norm_ (by simp only [putAll, Act.put, List.setIfInBounds_toArray, List.set_cons_zero, List.set_cons_succ]) (hCont (.slice Ao61 y427.length co61, v432, gb434) _ ⟨hHeld, (c22_18), (c22_19), (c22_7), (c22_8), (G.cR HO_6.out), (G.cb BK414.out), (G.cb BK422.out), (G.cb BK434.out), GW434.out, GE434.out, NB414_434.out, NB434_414.out, NB422_434.out, NB434_422.out, (G.cB HB.out)⟩)
               ·skip
                refine box_step ?hg (N := 10) ?hd (cs := #[.int .i64 0, .slice none 0 0]) (t := 29) ?hr ?_; (case hd => rfl); (case hg => rfl); (case hr => first | (go_simp; done) | (go_simp; rfl))
                intro gb434 hg w61 hbox hb
                have n0_ := Aside0.mk (Kd.R_below (G.cR HO_6.out) hb)
                have n1_ := Aside0.mk (Kd.V_below (Kd.V_elderB (G.cV HO_415001.out) gb434 (Nat.le_of_eq hg.symm)) hb)
                have n2_ := Aside0.mk (Kd.V_below (Kd.V_elderB (G.cV HO_423001.out) gb434 (Nat.le_of_eq hg.symm)) hb)
                have n3_ := Aside0.mk (Kd.R_below (G.cR HO429.out) hb)
                have n4_ := Aside0.mk (blk_below (g := gb414) (o := .cells #[.int .i64 a0_0, .slice A0_1 l0_1.length c0_1] 29 (0, 0)) (G.cb BK414.out) hb)
                have n5_ := Aside0.mk (blk_below (g := gb422) (o := .cells #[.int .i64 x423000_2, .slice Ao55 x423001_2.length co55] 29 (0, 0)) (G.cb BK422.out) hb)
                have n6_ := Aside0.mk (below_step (G.cB HB.out) hb)
                have n7_ := Aside0.mk (hbox)
                have n8_ := Aside0.mk ((c22_22 : w.heap.size ≤ gb434))
                have n9_ := Aside0.mk ((c22_22 : w.heap.size ≤ gb434))
                have n10_ := Aside0.mk ((c22_20 : gb414 ≠ gb434))
                have n11_ := Aside0.mk ((c22_21 : gb434 ≠ gb414))
                have n12_ := Aside0.mk ((c22_16 : gb422 ≠ gb434))
                have n13_ := Aside0.mk ((c22_17 : gb434 ≠ gb422))
                clear HO_6 HO_415001 HO_423001 HO429 BK414 BK422 HB
                revert n0_ n1_ n2_ n3_ n4_ n5_ n6_ n7_ n8_ n9_ n10_ n11_ n12_ n13_
                intro HO_6 HO_415001 HO_423001 HO429 BK414 BK422 HB BK434 GW434 GE434 NB414_434 NB434_414 NB422_434 NB434_422
                clear hb hbox hg
                obtain ⟨Ao62, co62, eo62⟩ := Kd.R_slice HO429.out
                (first | subst eo62 | (injection eo62 with f1_ f2_ f3_; have f4_ := f1_.symm; have f5_ := f3_.symm; clear f1_ f2_ f3_; subst f4_; subst f5_))
                refine hK.out _ _ ⟨(blk_cell BK422.out 0).trans rfl, (blk_cell BK422.out 1).trans rfl⟩ (fun hHeld => ?_)
                clear hK K
                refine G.no (some 10) ?_
                refine one_ (i := 5) (N := some 44) (G.fl 8 127) rfl rfl (one_of HT_.out (c22_23)) (c22_24) (fun K hK => ?_)
                refine goes_ Try.func50 (c22_23) rfl #[.agg #[.int .i64 x423000_2, .slice Ao55 x423001_2.length co55], .slice Ao62 y427.length co62] (by rfl) rfl rfl (G.ar) ?_
                with_reducible refine (impl_Net_less.calls k2 x423000_2 _ _ x423001_2 _ _ y427 t430 t431 _ ?side1 ?side2 ?side3 ?side4 A27.out).mono ?_
                (case side1 => repeat (first | exact (Kd.V_reads' HO_423001.out).2.2 | (with_reducible refine Kd.C_alloc ?_ _) | (with_reducible refine Kd.C_drewN ?_ _) | (with_reducible refine Kd.C_drew ?_)))
                (case side2 => exact (Kd.V_reads' HO_423001.out).2.1)
                (case side3 => repeat (first | exact (Kd.R_reads' HO429.out).2.2 | (with_reducible refine Kd.C_alloc ?_ _) | (with_reducible refine Kd.C_drewN ?_ _) | (with_reducible refine Kd.C_drew ?_)))
                (case side4 => exact (Kd.R_reads' HO429.out).2.1)
                rintro e w63 ⟨v432, rfl, ho0, hb⟩
                refine ⟨_, rfl, ?_⟩
                have n0_ := Aside0.mk (Kd.R_below (G.cR HO_6.out) hb)
                have n1_ := Aside0.mk (Kd.V_elder' (G.cV HO_415001.out) (Kd.R_base ho0) hb)
                have n2_ := Aside0.mk (Kd.V_elder' (G.cV HO_423001.out) (Kd.R_base ho0) hb)
                have n3_ := Aside0.mk (Kd.R_elder' (G.cR HO429.out) (Kd.R_base ho0) hb)
                have n4_ := Aside0.mk (Kd.R_lower (Kd.R_new' (Kd.R_newM (M := fun k_ => (w.heap.size ≤ k_)) ho0 (below_size (G.cB HB.out)) (fun k_ h_ => h_)) (Kd.R_lt (G.cR HO429.out))) (below_size (G.cB HB.out)))
                have n5_ := Aside0.mk (blk_below (g := gb414) (o := .cells #[.int .i64 a0_0, .slice A0_1 l0_1.length c0_1] 29 (0, 0)) (G.cb BK414.out) hb)
                have n6_ := Aside0.mk (blk_below (g := gb422) (o := .cells #[.int .i64 x423000_2, .slice Ao55 x423001_2.length co55] 29 (0, 0)) (G.cb BK422.out) hb)
                have n7_ := Aside0.mk (blk_below (g := gb434) (o := .cells #[.int .i64 0, .slice none 0 0] 29 (0, 0)) (G.cb BK434.out) hb)
                have n8_ := Aside0.mk (below_step (G.cB HB.out) hb)
                clear HO_6 HO_415001 HO_423001 HO429 BK414 BK422 BK434 HB
                revert n0_ n1_ n2_ n3_ n4_ n5_ n6_ n7_ n8_
                intro HO_6 HO_415001 HO_423001 HO429 HO433 BK414 BK422 BK434 HB
                (try clear hb)
                (try clear hb2)
                (try clear hk)
                (try clear hi)
                (try clear ho0)
                refine hK.out _ _ ⟨(blk_cell BK422.out 0).trans rfl, (blk_cell BK422.out 1).trans rfl⟩ (fun hHeld => ?_)
                clear hK K
                refine G.no (some 44) ?_
                exact norm_ (by simp only [putAll, Act.put, List.setIfInBounds_toArray, List.set_cons_zero, List.set_cons_succ]) (hCont (.slice Ao62 y427.length co62, v432, gb434) _ ⟨hHeld, (c22_18), (c22_19), (c22_9), (c22_10), (G.cR HO_6.out), (G.cb BK414.out), (G.cb BK422.out), (G.cb BK434.out), GW434.out, GE434.out, NB414_434.out, NB434_414.out, NB422_434.out, NB434_422.out, (G.cB HB.out)⟩)
              ·skip
               refine box_step ?hg (N := 10) ?hd (cs := #[.int .i64 0, .slice none 0 0]) (t := 29) ?hr ?_; (case hd => rfl); (case hg => rfl); (case hr => first | (go_simp; done) | (go_simp; rfl))
               intro gb434 hg w59 hbox hb
               have n0_ := Aside0.mk (Kd.R_below (G.cR HO_6.out) hb)
               have n1_ := Aside0.mk (Kd.V_below (Kd.V_elderB (G.cV HO_415001.out) gb434 (Nat.le_of_eq hg.symm)) hb)
               have n2_ := Aside0.mk (Kd.V_below (Kd.V_elderB (G.cV HO_423001.out) gb434 (Nat.le_of_eq hg.symm)) hb)
               have n3_ := Aside0.mk (blk_below (g := gb414) (o := .cells #[.int .i64 a0_0, .slice A0_1 l0_1.length c0_1] 29 (0, 0)) (G.cb BK414.out) hb)
               have n4_ := Aside0.mk (blk_below (g := gb422) (o := .cells #[.int .i64 x423000_2, .slice Ao55 x423001_2.length co55] 29 (0, 0)) (G.cb BK422.out) hb)
               have n5_ := Aside0.mk (below_step (G.cB HB.out) hb)
               have n6_ := Aside0.mk (hbox)
               have n7_ := Aside0.mk ((c22_22 : w.heap.size ≤ gb434))
               have n8_ := Aside0.mk ((c22_22 : w.heap.size ≤ gb434))
               have n9_ := Aside0.mk ((c22_20 : gb414 ≠ gb434))
               have n10_ := Aside0.mk ((c22_21 : gb434 ≠ gb414))
               have n11_ := Aside0.mk ((c22_16 : gb422 ≠ gb434))
               have n12_ := Aside0.mk ((c22_17 : gb434 ≠ gb422))
               clear HO_6 HO_415001 HO_423001 BK414 BK422 HB
               revert n0_ n1_ n2_ n3_ n4_ n5_ n6_ n7_ n8_ n9_ n10_ n11_ n12_
               intro HO_6 HO_415001 HO_423001 BK414 BK422 HB BK434 GW434 GE434 NB414_434 NB434_414 NB422_434 NB434_422
               clear hb hbox hg
               refine hK.out _ _ ⟨(blk_cell BK422.out 0).trans rfl, (blk_cell BK422.out 1).trans rfl⟩ (fun hHeld => ?_)
               clear hK K
               refine G.no (some 10) ?_
               refine one_ (i := 4) (N := some 43) (G.fl 8 95) rfl rfl (one_of HT_.out (c22_23)) (c22_24) (fun K hK => ?_)
               refine Kd.R_lit_step k63 _ 63 ?hg (N := 43) ?hd (xs := ([(⟨t425, t426⟩ : S63)] : List (S63))) (inner := [.int .i64 t425, .int .i64 t426]) (ok := fun _ => True) (okp := fun _ => True) ?hr ?hp (fun _ hk => hk) trivial (Below.refl _ _) (Nat.le_refl _) (by simp) ?_; (case hd => rfl); (case hg => rfl); (case hr => first | (go_simp; done) | (go_simp; rfl)); (case hp => exact (Reps.c2 (show Kd.M k63 _ _ _ (⟨t425, t426⟩ : S63) [.int .i64 t425, .int .i64 t426] from (k63_mkM _ _ _ (⟨t425, t426⟩ : S63) )) (Reps.none _ _)))
               intro v428 w60 ho61 hb hg_ hnew_
               clear hg_ hnew_
               (first | rw [← Ny427.out] at ho61 | (simp only [Int.reduceToNat] at ho61; rw [← Ny427.out] at ho61))
               have n0_ := Aside0.mk (Kd.R_below (G.cR HO_6.out) hb)
               have n1_ := Aside0.mk (Kd.V_elder' (G.cV HO_415001.out) (Kd.R_base ho61) hb)
               have n2_ := Aside0.mk (Kd.V_elder' (G.cV HO_423001.out) (Kd.R_base ho61) hb)
               have n3_ := Aside0.mk (Kd.R_lower (Kd.R_newM (M := fun k_ => (w.heap.size ≤ k_)) ho61 (below_size (G.cB HB.out)) (fun k_ h_ => h_)) (below_size (G.cB HB.out)))
               have n4_ := Aside0.mk (blk_below (g := gb414) (o := .cells #[.int .i64 a0_0, .slice A0_1 l0_1.length c0_1] 29 (0, 0)) (G.cb BK414.out) hb)
               have n5_ := Aside0.mk (blk_below (g := gb422) (o := .cells #[.int .i64 x423000_2, .slice Ao55 x423001_2.length co55] 29 (0, 0)) (G.cb BK422.out) hb)
               have n6_ := Aside0.mk (blk_below (g := gb434) (o := .cells #[.int .i64 0, .slice none 0 0] 29 (0, 0)) (G.cb BK434.out) hb)
               have n7_ := Aside0.mk (below_step (G.cB HB.out) hb)
               clear HO_6 HO_415001 HO_423001 BK414 BK422 BK434 HB
               revert n0_ n1_ n2_ n3_ n4_ n5_ n6_ n7_
               intro HO_6 HO_415001 HO_423001 HO429 BK414 BK422 BK434 HB
               clear hb ho61
               obtain ⟨Ao62, co62, eo62⟩ := Kd.R_slice HO429.out
               (first | subst eo62 | (injection eo62 with f1_ f2_ f3_; have f4_ := f1_.symm; have f5_ := f3_.symm; clear f1_ f2_ f3_; subst f4_; subst f5_))
               refine hK.out _ _ ⟨(blk_cell BK422.out 0).trans rfl, (blk_cell BK422.out 1).trans rfl⟩ (fun hHeld => ?_)
               clear hK K
               refine G.no (some 43) ?_
               refine one_ (i := 5) (N := some 44) (G.fl 8 127) rfl rfl (one_of HT_.out (c22_23)) (c22_24) (fun K hK => ?_)
               refine goes_ Try.func50 (c22_23) rfl #[.agg #[.int .i64 x423000_2, .slice Ao55 x423001_2.length co55], .slice Ao62 y427.length co62] (by rfl) rfl rfl (G.ar) ?_
               with_reducible refine (impl_Net_less.calls k2 x423000_2 _ _ x423001_2 _ _ y427 t430 t431 _ ?side1 ?side2 ?side3 ?side4 A27.out).mono ?_
               (case side1 => repeat (first | exact (Kd.V_reads' HO_423001.out).2.2 | (with_reducible refine Kd.C_alloc ?_ _) | (with_reducible refine Kd.C_drewN ?_ _) | (with_reducible refine Kd.C_drew ?_)))
               (case side2 => exact (Kd.V_reads' HO_423001.out).2.1)
               (case side3 => repeat (first | exact (Kd.R_reads' HO429.out).2.2 | (with_reducible refine Kd.C_alloc ?_ _) | (with_reducible refine Kd.C_drewN ?_ _) | (with_reducible refine Kd.C_drew ?_)))
               (case side4 => exact (Kd.R_reads' HO429.out).2.1)
               rintro e w63 ⟨v432, rfl, ho0, hb⟩
               refine ⟨_, rfl, ?_⟩
               have n0_ := Aside0.mk (Kd.R_below (G.cR HO_6.out) hb)
               have n1_ := Aside0.mk (Kd.V_elder' (G.cV HO_415001.out) (Kd.R_base ho0) hb)
               have n2_ := Aside0.mk (Kd.V_elder' (G.cV HO_423001.out) (Kd.R_base ho0) hb)
               have n3_ := Aside0.mk (Kd.R_elder' (G.cR HO429.out) (Kd.R_base ho0) hb)
               have n4_ := Aside0.mk (Kd.R_lower (Kd.R_new' (Kd.R_newM (M := fun k_ => (w.heap.size ≤ k_)) ho0 (below_size (G.cB HB.out)) (fun k_ h_ => h_)) (Kd.R_lt (G.cR HO429.out))) (below_size (G.cB HB.out)))
               have n5_ := Aside0.mk (blk_below (g := gb414) (o := .cells #[.int .i64 a0_0, .slice A0_1 l0_1.length c0_1] 29 (0, 0)) (G.cb BK414.out) hb)
               have n6_ := Aside0.mk (blk_below (g := gb422) (o := .cells #[.int .i64 x423000_2, .slice Ao55 x423001_2.length co55] 29 (0, 0)) (G.cb BK422.out) hb)
               have n7_ := Aside0.mk (blk_below (g := gb434) (o := .cells #[.int .i64 0, .slice none 0 0] 29 (0, 0)) (G.cb BK434.out) hb)
               have n8_ := Aside0.mk (below_step (G.cB HB.out) hb)
               clear HO_6 HO_415001 HO_423001 HO429 BK414 BK422 BK434 HB
               revert n0_ n1_ n2_ n3_ n4_ n5_ n6_ n7_ n8_
               intro HO_6 HO_415001 HO_423001 HO429 HO433 BK414 BK422 BK434 HB
               (try clear hb)
               (try clear hb2)
               (try clear hk)
               (try clear hi)
               (try clear ho0)
               refine hK.out _ _ ⟨(blk_cell BK422.out 0).trans rfl, (blk_cell BK422.out 1).trans rfl⟩ (fun hHeld => ?_)
               clear hK K
               refine G.no (some 44) ?_
               exact norm_ (by simp only [putAll, Act.put, List.setIfInBounds_toArray, List.set_cons_zero, List.set_cons_succ]) (hCont (.slice Ao62 y427.length co62, v432, gb434) _ ⟨hHeld, (c22_18), (c22_19), (c22_11), (c22_12), (G.cR HO_6.out), (G.cb BK414.out), (G.cb BK422.out), (G.cb BK434.out), GW434.out, GE434.out, NB414_434.out, NB434_414.out, NB422_434.out, NB434_422.out, (G.cB HB.out)⟩)
             ·skip
              refine box_step ?hg (N := 10) ?hd (cs := #[.int .i64 0, .slice none 0 0]) (t := 29) ?hr ?_; (case hd => rfl); (case hg => rfl); (case hr => first | (go_simp; done) | (go_simp; rfl))
              intro gb434 hg w58 hbox hb
              have n0_ := Aside0.mk (Kd.R_below (G.cR HO_6.out) hb)
              have n1_ := Aside0.mk (Kd.V_below (Kd.V_elderB (G.cV HO_415001.out) gb434 (Nat.le_of_eq hg.symm)) hb)
              have n2_ := Aside0.mk (Kd.V_below (Kd.V_elderB (G.cV HO_423001.out) gb434 (Nat.le_of_eq hg.symm)) hb)
              have n3_ := Aside0.mk (blk_below (g := gb414) (o := .cells #[.int .i64 a0_0, .slice A0_1 l0_1.length c0_1] 29 (0, 0)) (G.cb BK414.out) hb)
              have n4_ := Aside0.mk (blk_below (g := gb422) (o := .cells #[.int .i64 x423000_2, .slice Ao55 x423001_2.length co55] 29 (0, 0)) (G.cb BK422.out) hb)
              have n5_ := Aside0.mk (below_step (G.cB HB.out) hb)
              have n6_ := Aside0.mk (hbox)
              have n7_ := Aside0.mk ((c22_22 : w.heap.size ≤ gb434))
              have n8_ := Aside0.mk ((c22_22 : w.heap.size ≤ gb434))
              have n9_ := Aside0.mk ((c22_20 : gb414 ≠ gb434))
              have n10_ := Aside0.mk ((c22_21 : gb434 ≠ gb414))
              have n11_ := Aside0.mk ((c22_16 : gb422 ≠ gb434))
              have n12_ := Aside0.mk ((c22_17 : gb434 ≠ gb422))
              clear HO_6 HO_415001 HO_423001 BK414 BK422 HB
              revert n0_ n1_ n2_ n3_ n4_ n5_ n6_ n7_ n8_ n9_ n10_ n11_ n12_
              intro HO_6 HO_415001 HO_423001 BK414 BK422 HB BK434 GW434 GE434 NB414_434 NB434_414 NB422_434 NB434_422
              clear hb hbox hg
              refine hK.out _ _ ⟨(blk_cell BK422.out 0).trans rfl, (blk_cell BK422.out 1).trans rfl⟩ (fun hHeld => ?_)
              clear hK K
              refine G.no (some 10) ?_
              refine one_ (i := 3) (N := some 42) (G.fl 8 79) rfl rfl (one_of HT_.out (c22_23)) (c22_24) (fun K hK => ?_)
              refine goes_ Try.func51 (c22_23) rfl #[.int .i64 (rd x6_1 (ji15)), .int .i64 x31_2] (by rfl) rfl rfl (c22_13) ?_
              with_reducible refine (impl_tie.calls (rd x6_1 (ji15)) x31_2 t425 t426 _ A26.out).mono ?_
              rintro e w59 ⟨rfl, hb⟩
              refine ⟨_, rfl, ?_⟩
              have n0_ := Aside0.mk (Kd.R_below (G.cR HO_6.out) hb)
              have n1_ := Aside0.mk (Kd.V_below (G.cV HO_415001.out) hb)
              have n2_ := Aside0.mk (Kd.V_below (G.cV HO_423001.out) hb)
              have n3_ := Aside0.mk (blk_below (g := gb414) (o := .cells #[.int .i64 a0_0, .slice A0_1 l0_1.length c0_1] 29 (0, 0)) (G.cb BK414.out) hb)
              have n4_ := Aside0.mk (blk_below (g := gb422) (o := .cells #[.int .i64 x423000_2, .slice Ao55 x423001_2.length co55] 29 (0, 0)) (G.cb BK422.out) hb)
              have n5_ := Aside0.mk (blk_below (g := gb434) (o := .cells #[.int .i64 0, .slice none 0 0] 29 (0, 0)) (G.cb BK434.out) hb)
              have n6_ := Aside0.mk (below_step (G.cB HB.out) hb)
              clear HO_6 HO_415001 HO_423001 BK414 BK422 BK434 HB
              revert n0_ n1_ n2_ n3_ n4_ n5_ n6_
              intro HO_6 HO_415001 HO_423001 BK414 BK422 BK434 HB
              (try clear hb)
              (try clear hb2)
              (try clear hk)
              (try clear hi)
              refine hK.out _ _ ⟨(blk_cell BK422.out 0).trans rfl, (blk_cell BK422.out 1).trans rfl⟩ (fun hHeld => ?_)
              clear hK K
              refine G.no (some 42) ?_
              refine one_ (i := 4) (N := some 43) (G.fl 8 95) rfl rfl (one_of HT_.out (c22_23)) (c22_24) (fun K hK => ?_)
              refine Kd.R_lit_step k63 _ 63 ?hg (N := 43) ?hd (xs := ([(⟨t425, t426⟩ : S63)] : List (S63))) (inner := [.int .i64 t425, .int .i64 t426]) (ok := fun _ => True) (okp := fun _ => True) ?hr ?hp (fun _ hk => hk) trivial (Below.refl _ _) (Nat.le_refl _) (by simp) ?_; (case hd => rfl); (case hg => rfl); (case hr => first | (go_simp; done) | (go_simp; rfl)); (case hp => exact (Reps.c2 (show Kd.M k63 _ _ _ (⟨t425, t426⟩ : S63) [.int .i64 t425, .int .i64 t426] from (k63_mkM _ _ _ (⟨t425, t426⟩ : S63) )) (Reps.none _ _)))
              intro v428 w60 ho61 hb hg_ hnew_
              clear hg_ hnew_
              (first | rw [← Ny427.out] at ho61 | (simp only [Int.reduceToNat] at ho61; rw [← Ny427.out] at ho61))
              have n0_ := Aside0.mk (Kd.R_below (G.cR HO_6.out) hb)
              have n1_ := Aside0.mk (Kd.V_elder' (G.cV HO_415001.out) (Kd.R_base ho61) hb)
              have n2_ := Aside0.mk (Kd.V_elder' (G.cV HO_423001.out) (Kd.R_base ho61) hb)
              have n3_ := Aside0.mk (Kd.R_lower (Kd.R_newM (M := fun k_ => (w.heap.size ≤ k_)) ho61 (below_size (G.cB HB.out)) (fun k_ h_ => h_)) (below_size (G.cB HB.out)))
              have n4_ := Aside0.mk (blk_below (g := gb414) (o := .cells #[.int .i64 a0_0, .slice A0_1 l0_1.length c0_1] 29 (0, 0)) (G.cb BK414.out) hb)
              have n5_ := Aside0.mk (blk_below (g := gb422) (o := .cells #[.int .i64 x423000_2, .slice Ao55 x423001_2.length co55] 29 (0, 0)) (G.cb BK422.out) hb)
              have n6_ := Aside0.mk (blk_below (g := gb434) (o := .cells #[.int .i64 0, .slice none 0 0] 29 (0, 0)) (G.cb BK434.out) hb)
              have n7_ := Aside0.mk (below_step (G.cB HB.out) hb)
              clear HO_6 HO_415001 HO_423001 BK414 BK422 BK434 HB
              revert n0_ n1_ n2_ n3_ n4_ n5_ n6_ n7_
              intro HO_6 HO_415001 HO_423001 HO429 BK414 BK422 BK434 HB
              clear hb ho61
              obtain ⟨Ao62, co62, eo62⟩ := Kd.R_slice HO429.out
              (first | subst eo62 | (injection eo62 with f1_ f2_ f3_; have f4_ := f1_.symm; have f5_ := f3_.symm; clear f1_ f2_ f3_; subst f4_; subst f5_))
              refine hK.out _ _ ⟨(blk_cell BK422.out 0).trans rfl, (blk_cell BK422.out 1).trans rfl⟩ (fun hHeld => ?_)
              clear hK K
              refine G.no (some 43) ?_
              refine one_ (i := 5) (N := some 44) (G.fl 8 127) rfl rfl (one_of HT_.out (c22_23)) (c22_24) (fun K hK => ?_)
              refine goes_ Try.func50 (c22_23) rfl #[.agg #[.int .i64 x423000_2, .slice Ao55 x423001_2.length co55], .slice Ao62 y427.length co62] (by rfl) rfl rfl (G.ar) ?_
              with_reducible refine (impl_Net_less.calls k2 x423000_2 _ _ x423001_2 _ _ y427 t430 t431 _ ?side1 ?side2 ?side3 ?side4 A27.out).mono ?_
              (case side1 => repeat (first | exact (Kd.V_reads' HO_423001.out).2.2 | (with_reducible refine Kd.C_alloc ?_ _) | (with_reducible refine Kd.C_drewN ?_ _) | (with_reducible refine Kd.C_drew ?_)))
              (case side2 => exact (Kd.V_reads' HO_423001.out).2.1)
              (case side3 => repeat (first | exact (Kd.R_reads' HO429.out).2.2 | (with_reducible refine Kd.C_alloc ?_ _) | (with_reducible refine Kd.C_drewN ?_ _) | (with_reducible refine Kd.C_drew ?_)))
              (case side4 => exact (Kd.R_reads' HO429.out).2.1)
              rintro e w63 ⟨v432, rfl, ho0, hb⟩
              refine ⟨_, rfl, ?_⟩
              have n0_ := Aside0.mk (Kd.R_below (G.cR HO_6.out) hb)
              have n1_ := Aside0.mk (Kd.V_elder' (G.cV HO_415001.out) (Kd.R_base ho0) hb)
              have n2_ := Aside0.mk (Kd.V_elder' (G.cV HO_423001.out) (Kd.R_base ho0) hb)
              have n3_ := Aside0.mk (Kd.R_elder' (G.cR HO429.out) (Kd.R_base ho0) hb)
              have n4_ := Aside0.mk (Kd.R_lower (Kd.R_new' (Kd.R_newM (M := fun k_ => (w.heap.size ≤ k_)) ho0 (below_size (G.cB HB.out)) (fun k_ h_ => h_)) (Kd.R_lt (G.cR HO429.out))) (below_size (G.cB HB.out)))
              have n5_ := Aside0.mk (blk_below (g := gb414) (o := .cells #[.int .i64 a0_0, .slice A0_1 l0_1.length c0_1] 29 (0, 0)) (G.cb BK414.out) hb)
              have n6_ := Aside0.mk (blk_below (g := gb422) (o := .cells #[.int .i64 x423000_2, .slice Ao55 x423001_2.length co55] 29 (0, 0)) (G.cb BK422.out) hb)
              have n7_ := Aside0.mk (blk_below (g := gb434) (o := .cells #[.int .i64 0, .slice none 0 0] 29 (0, 0)) (G.cb BK434.out) hb)
              have n8_ := Aside0.mk (below_step (G.cB HB.out) hb)
              clear HO_6 HO_415001 HO_423001 HO429 BK414 BK422 BK434 HB
              revert n0_ n1_ n2_ n3_ n4_ n5_ n6_ n7_ n8_
              intro HO_6 HO_415001 HO_423001 HO429 HO433 BK414 BK422 BK434 HB
              (try clear hb)
              (try clear hb2)
              (try clear hk)
              (try clear hi)
              (try clear ho0)
              refine hK.out _ _ ⟨(blk_cell BK422.out 0).trans rfl, (blk_cell BK422.out 1).trans rfl⟩ (fun hHeld => ?_)
              clear hK K
              refine G.no (some 44) ?_
              exact norm_ (by simp only [putAll, Act.put, List.setIfInBounds_toArray, List.set_cons_zero, List.set_cons_succ]) (hCont (.slice Ao62 y427.length co62, v432, gb434) _ ⟨hHeld, (c22_18), (c22_19), (c22_11), (c22_12), (G.cR HO_6.out), (G.cb BK414.out), (G.cb BK422.out), (G.cb BK434.out), GW434.out, GE434.out, NB414_434.out, NB434_414.out, NB422_434.out, NB434_422.out, (G.cB HB.out)⟩)
            rintro ⟨v428, v432, gb434⟩ w64 ⟨hS_, h0_, h1_, h2_, h3_, h4_, h5_, h6_, h7_, h8_, h9_, h10_, h11_, h12_, h13_, h14_⟩
            have n0_ : Aside0 (Kd.R k63 63 w64 w.heap.size (fun k_ => (w.heap.size ≤ k_) ∧ some k_ ≠ (v432 : Value).ownBlock) v428 y427) := ⟨h0_⟩
            have n1_ : Aside0 (Kd.R k63 63 w64 w.heap.size (fun k_ => (w.heap.size ≤ k_) ∧ some k_ ≠ (v428 : Value).ownBlock) v432 t431) := ⟨h1_⟩
            have n2_ : Aside0 (Kd.V k63 63 w64 w.heap.size (fun k_ => (P0_1_ k_ ∨ w.heap.size ≤ k_) ∧ some k_ ≠ (v428 : Value).ownBlock ∧ some k_ ≠ (v432 : Value).ownBlock ∧ some k_ ≠ (u6 : Value).ownBlock ∧ k_ ≠ gb414 ∧ k_ ≠ gb422 ∧ k_ ≠ gb434) (.slice A0_1 l0_1.length c0_1) l0_1) := ⟨h2_⟩
            have n3_ : Aside0 (Kd.V k63 63 w64 w.heap.size (fun k_ => (P0_1_ k_ ∨ w.heap.size ≤ k_) ∧ some k_ ≠ (v428 : Value).ownBlock ∧ some k_ ≠ (v432 : Value).ownBlock ∧ some k_ ≠ (u6 : Value).ownBlock ∧ k_ ≠ gb414 ∧ k_ ≠ gb422 ∧ k_ ≠ gb434) (.slice Ao55 x423001_2.length co55) x423001_2) := ⟨h3_⟩
            have n4_ : Aside0 (Kd.R (Kd.int .i64) 3 w64 w.heap.size (fun k_ => (w.heap.size ≤ k_)) u6 x6_2) := ⟨h4_⟩
            have n5_ : Aside0 (w64.heap[gb414]? = some (.cells #[.int .i64 a0_0, .slice A0_1 l0_1.length c0_1] 29 (0, 0))) := ⟨h5_⟩
            have n6_ : Aside0 (w64.heap[gb422]? = some (.cells #[.int .i64 x423000_2, .slice Ao55 x423001_2.length co55] 29 (0, 0))) := ⟨h6_⟩
            have n7_ : Aside0 (w64.heap[gb434]? = some (.cells #[.int .i64 0, .slice none 0 0] 29 (0, 0))) := ⟨h7_⟩
            have n8_ : Aside0 (w.heap.size ≤ gb434) := ⟨h8_⟩
            have n9_ : Aside0 (w.heap.size ≤ gb434) := ⟨h9_⟩
            have n10_ : Aside0 (gb414 ≠ gb434) := ⟨h10_⟩
            have n11_ : Aside0 (gb434 ≠ gb414) := ⟨h11_⟩
            have n12_ : Aside0 (gb422 ≠ gb434) := ⟨h12_⟩
            have n13_ : Aside0 (gb434 ≠ gb422) := ⟨h13_⟩
            have n14_ : Aside0 (Below w.heap.size w w64) := ⟨h14_⟩
            clear HO_6 HO_415001 HO_423001 BK414 BK422 HB
            clear h0_ h1_ h2_ h3_ h4_ h5_ h6_ h7_ h8_ h9_ h10_ h11_ h12_ h13_ h14_
            revert n0_ n1_ n2_ n3_ n4_ n5_ n6_ n7_ n8_ n9_ n10_ n11_ n12_ n13_ n14_
            intro HO429 HO433 HO_415001 HO_423001 HO_6 BK414 BK422 BK434 GW434 GE434 NB414_434 NB434_414 NB422_434 NB434_422 HB
            have hHeld : w64.cell? ⟨gb422, 0, none⟩ = some (.int .i64 x423000_2) ∧ w64.cell? ⟨gb422, 1, none⟩ = some (.slice Ao55 x423001_2.length co55) := hS_
            obtain ⟨Ao66, co66, eo66⟩ := Kd.R_slice HO433.out
            (first | subst eo66 | (injection eo66 with f1_ f2_ f3_; have f4_ := f1_.symm; have f5_ := f3_.symm; clear f1_ f2_ f3_; subst f4_; subst f5_))
            refine norm_ (a' := ?_) ?_ ?_
            rotate_left
            ·simp only [putAll, Act.put, List.setIfInBounds_toArray, List.set_cons_zero, List.set_cons_succ]
             rfl
            refine one_ (i := 7) (N := none) (G.fl 8 255) rfl rfl (one_of HT_.out (c22_23)) (c22_24) (fun K hK => ?_)
            have hs65 : w64.cell? ⟨gb434, 0, none⟩ = some (.int .i64 0) := (blk_cell BK434.out 0).trans rfl
            have hfs65 := blk_frozen BK434.out 0
            have hns65_0 := NB414_434.out
            have hns65_1 := NB422_434.out
            have hms65_0 := NB434_414.out
            have hms65_1 := NB434_422.out
            have hs67 : w64.cell? ⟨gb434, 1, none⟩ = some (.slice none 0 0) := (blk_cell BK434.out 1).trans rfl
            have hfs67 := blk_frozen BK434.out 1
            have hns67_0 := NB414_434.out
            have hns67_1 := NB422_434.out
            have hms67_0 := NB434_414.out
            have hms67_1 := NB434_422.out
            refine skip_ (w1 := ?_) (by rfl) rfl ?_ ?_
            rotate_left
            ·go_simp
             rfl
            refine hK.out _ _ ⟨((cell_far (p := ⟨gb434, _, none⟩) NB422_434.out _).trans (((cell_far (p := ⟨gb434, _, none⟩) NB422_434.out _).trans (hHeld.1)))), ((cell_far (p := ⟨gb434, _, none⟩) NB422_434.out _).trans (((cell_far (p := ⟨gb434, _, none⟩) NB422_434.out _).trans (hHeld.2))))⟩ (fun hHeld => ?_)
            clear hK K
            refine done_ (done_of HT_.out (c22_23)) ?_
            have hnb68 := NB434_414.out
            have hnc68 := NB414_434.out
            have hnb69 := NB434_422.out
            have hnc69 := NB422_434.out
            have hcz70_0 : w64.cell? ⟨gb434, 0, none⟩ = some (.int .i64 0) := (blk_cell BK434.out 0).trans rfl
            have hcz70_1 : w64.cell? ⟨gb434, 1, none⟩ = some (.slice none 0 0) := (blk_cell BK434.out 1).trans rfl
            have hfz70_0 := blk_frozen BK434.out 0
            have hfz70_1 := blk_frozen BK434.out 1
            try go_wp2_with (first | ((with_reducible refine gate_callee (f := 44) rfl ?_); refine goesL_ (some 47) rfl rfl Try.func44 (c22_23) rfl #[.agg #[.int .i64 t430, .slice Ao66 t431.length co66], .int .i64 x31_2] rfl (G.ar) ?_; (with_reducible refine (impl_Net_trail.calls k2 t430 _ _ t431 x31_2 false _ ?side1 ?side2 A28.out).mono ?_); (case side1 => refine (Kd.R_reads' (e := 63) (base := w.heap.size) (ok := fun k_ => ((w.heap.size ≤ k_) ∧ some k_ ≠ (v428 : Value).ownBlock)) (n := t431.length) (c := co66) ?_).2.2; exact (c22_6)); (case side2 => exact (Kd.R_reads' HO433.out).2.1); rintro e w71 ⟨rfl, hb⟩; refine ⟨_, rfl, ?_⟩; have n0_ := Aside0.mk (Kd.R_below (by (with_reducible repeat (first | apply Kd.R_alloc | apply Kd.R_drewN | apply Kd.R_drew)); exact (Kd.R_mono (Kd.R_far (p := ⟨gb434, 1, none⟩) (Kd.R_far (p := ⟨gb434, 0, none⟩) (Kd.R_types HO_6.out BK434.out (c22_24)) (fun _ hk => hk.2) (.int .i64 t430)) (fun _ hk => hk.2) (.slice Ao66 t431.length co66)) (fun _ h_ => h_.1))) hb); have n1_ := Aside0.mk (Kd.V_below (by (with_reducible repeat (first | apply Kd.V_alloc | apply Kd.V_drewN | apply Kd.V_drew)); exact (Kd.V_mono (Kd.V_far (p := ⟨gb434, 1, none⟩) (Kd.V_far (p := ⟨gb434, 0, none⟩) (Kd.V_mono HO_415001.out (fun k_ hk => (⟨hk, hk.2.2.2.2.2.2⟩ : _ ∧ k_ ≠ gb434))) (fun _ hk => hk.2) (.int .i64 t430)) (fun _ hk => hk.2) (.slice Ao66 t431.length co66)) (fun _ h_ => h_.1))) hb); have n2_ := Aside0.mk (Kd.V_below (by (with_reducible repeat (first | apply Kd.V_alloc | apply Kd.V_drewN | apply Kd.V_drew)); exact (Kd.V_mono (Kd.V_far (p := ⟨gb434, 1, none⟩) (Kd.V_far (p := ⟨gb434, 0, none⟩) (Kd.V_mono HO_423001.out (fun k_ hk => (⟨hk, hk.2.2.2.2.2.2⟩ : _ ∧ k_ ≠ gb434))) (fun _ hk => hk.2) (.int .i64 t430)) (fun _ hk => hk.2) (.slice Ao66 t431.length co66)) (fun _ h_ => h_.1))) hb); have n3_ := Aside0.mk (Kd.R_below (by (with_reducible repeat (first | apply Kd.R_alloc | apply Kd.R_drewN | apply Kd.R_drew)); exact (Kd.R_mono (Kd.R_far (p := ⟨gb434, 1, none⟩) (Kd.R_far (p := ⟨gb434, 0, none⟩) (Kd.R_types HO429.out BK434.out (c22_24)) (fun _ hk => hk.2) (.int .i64 t430)) (fun _ hk => hk.2) (.slice Ao66 t431.length co66)) (fun _ h_ => h_.1))) hb); have n4_ := Aside0.mk (Kd.R_below (c22_6) hb); have n5_ := Aside0.mk (blk_below (g := gb414) (o := .cells #[.int .i64 a0_0, .slice A0_1 l0_1.length c0_1] 29 (0, 0)) (c22_2) hb); have n6_ := Aside0.mk (blk_below (g := gb422) (o := .cells #[.int .i64 x423000_2, .slice Ao55 x423001_2.length co55] 29 (0, 0)) (c22_3) hb); have n7_ := Aside0.mk (blk_below (g := gb434) (o := .cells #[.int .i64 t430, .slice Ao66 t431.length co66] 29 (0, 0)) (c22_0) hb); have n8_ := Aside0.mk (below_step (G.cB HB.out) hb); clear HO_6 HO_415001 HO_423001 HO429 HO433 BK414 BK422 BK434 HB; revert n0_ n1_ n2_ n3_ n4_ n5_ n6_ n7_ n8_; intro HO_6 HO_415001 HO_423001 HO429 HO433 BK414 BK422 BK434 HB; (try clear hb); (try clear hb2); (try clear hk); (try clear hi)))
            go_roundg k2
            case measure => have := HK1.out; have := HK2.out; omega
            case rel => exact ⟨(x6_2), (wrap64 (x31_2 + 1)), (x423000_2), (x423001_2), (.slice Ao55 x423001_2.length co55), (by first | rfl | (simp; done) | (simp [*]; done)), H', ⟨by have := HK1.out; have := HK2.out; omega⟩, ⟨G.cR HO_6.out⟩, ⟨by (with_reducible repeat (first | apply Kd.V_alloc | apply Kd.V_drewN | apply Kd.V_drew)); exact Kd.V_mono HO_415001.out (fun _ hk => ⟨hk.1, ⟨hk.2.2.2.1, ⟨hk.2.2.2.2.1, hk.2.2.2.2.2.1⟩⟩⟩)⟩, ⟨by (with_reducible repeat (first | apply Kd.V_alloc | apply Kd.V_drewN | apply Kd.V_drew)); exact Kd.V_mono HO_423001.out (fun _ hk => ⟨hk.1, ⟨hk.2.2.2.1, ⟨hk.2.2.2.2.1, hk.2.2.2.2.2.1⟩⟩⟩)⟩, ⟨G.cb BK414.out⟩, ⟨G.cb BK422.out⟩, ⟨G.cB HB.out⟩⟩
          ·replace c25 := Bool.eq_false_iff.mpr c25
           subst c25
           have H1 : (impl_TrailOf.l1 k2 x6_2 (rd x6_1 (ji15)) a0_0 (wrap64 (x31_2 + 1)) a0_0 l0_1 x423000_2 x423001_2) = some (r1, r2) := by rw [if_neg (show ¬ (false = true) by decide)] at H; exact H
           clear H
           have H := H1
           clear H1
           have H' := Aside0.mk H
           clear H
           have hnb72 := NB422_414.out
           have hnc72 := NB414_422.out
           have hcz73_0 : wr.cell? ⟨gb422, 0, none⟩ = some (.int .i64 x423000_2) := (blk_cell BK422.out 0).trans rfl
           have hcz73_1 : wr.cell? ⟨gb422, 1, none⟩ = some (u423001) := (blk_cell BK422.out 1).trans rfl
           have hfz73_0 := blk_frozen BK422.out 0
           have hfz73_1 := blk_frozen BK422.out 1
           obtain ⟨Ao74, co74, eo74⟩ := Kd.V_slice HO_423001.out
           subst eo74
           go_wp2_with (first | ((with_reducible refine gate_callee (f := 52) rfl ?_); refine goesL_ (some 37) rfl rfl Try.func52 (c22_23) rfl #[.agg #[.int .i64 x423000_2, .slice Ao74 x423001_2.length co74], .int .i64 (rd x6_1 (ji15)), .int .i64 x31_2] rfl (c22_13) ?_; (with_reducible refine (impl_Net_has.calls k2 x423000_2 _ _ x423001_2 (rd x6_1 (ji15)) x31_2 false _ ?side1 ?side2 A24.out).mono ?_); (case side1 => repeat (first | exact (Kd.V_reads' HO_423001.out).2.2 | (with_reducible refine Kd.C_alloc ?_ _) | (with_reducible refine Kd.C_drewN ?_ _) | (with_reducible refine Kd.C_drew ?_))); (case side2 => exact (Kd.V_reads' HO_423001.out).2.1); rintro e w75 ⟨rfl, hb⟩; refine ⟨_, rfl, ?_⟩; have n0_ := Aside0.mk (Kd.R_below (G.cR HO_6.out) hb); have n1_ := Aside0.mk (Kd.V_below (G.cV HO_415001.out) hb); have n2_ := Aside0.mk (Kd.V_below (G.cV HO_423001.out) hb); have n3_ := Aside0.mk (blk_below (g := gb414) (o := .cells #[.int .i64 a0_0, .slice A0_1 l0_1.length c0_1] 29 (0, 0)) (G.cb BK414.out) hb); have n4_ := Aside0.mk (blk_below (g := gb422) (o := .cells #[.int .i64 x423000_2, .slice Ao74 x423001_2.length co74] 29 (0, 0)) (G.cb BK422.out) hb); have n5_ := Aside0.mk (below_step (G.cB HB.out) hb); clear HO_6 HO_415001 HO_423001 BK414 BK422 HB; revert n0_ n1_ n2_ n3_ n4_ n5_; intro HO_6 HO_415001 HO_423001 BK414 BK422 HB; (try clear hb); (try clear hb2); (try clear hk); (try clear hi)))
           go_roundg k2
           case measure => have := HK1.out; have := HK2.out; omega
           case rel => exact ⟨(x6_2), (wrap64 (x31_2 + 1)), (x423000_2), (x423001_2), (.slice Ao74 x423001_2.length co74), (by first | rfl | (simp; done) | (simp [*]; done)), H', ⟨by have := HK1.out; have := HK2.out; omega⟩, ⟨G.cR HO_6.out⟩, ⟨G.cV HO_415001.out⟩, ⟨G.cV HO_423001.out⟩, ⟨G.cb BK414.out⟩, ⟨G.cb BK422.out⟩, ⟨G.cB HB.out⟩⟩
         ·rw [if_neg c23] at H
          have c23b0 : decide (x31_2 < a0_0) = false := decide_eq_false c23
          clear c23
          have H' := Aside0.mk H
          clear H
          go_wp2
          go_roundg k2
          case measure => have := HK1.out; have := HK2.out; omega
          case rel => exact ⟨(x6_2), (x423000_2), (x423001_2), (u423001), H', ⟨by have := HK1.out; have := HK2.out; omega⟩, ⟨G.cR HO_6.out⟩, ⟨G.cV HO_415001.out⟩, ⟨G.cV HO_423001.out⟩, ⟨G.cb BK414.out⟩, ⟨G.cb BK422.out⟩, ⟨G.cB HB.out⟩⟩
      ·rw [if_neg c17] at H
       exact absurd H (by simp)
     ·rw [if_neg c16] at H
      exact absurd H (by simp)
    ·rw [if_neg c14] at H
     have c14b0 : decide (0 < (x423001_1.length : Int)) = false := decide_eq_false c14
     have c14b1 : decide (0 < x423001_1.length) = false := decide_eq_false (by omega)
     clear c14
     simp only [Option.some.injEq, Prod.mk.injEq] at H
     obtain ⟨rfl, rfl⟩ := H
     have hnb76 := NB422_414.out
     have hnc76 := NB414_422.out
     have hcz77_0 : wr.cell? ⟨gb422, 0, none⟩ = some (.int .i64 x423000_1) := (blk_cell BK422.out 0).trans rfl
     have hcz77_1 : wr.cell? ⟨gb422, 1, none⟩ = some (u423001) := (blk_cell BK422.out 1).trans rfl
     have hfz77_0 := blk_frozen BK422.out 0
     have hfz77_1 := blk_frozen BK422.out 1
     obtain ⟨Ao78, co78, eo78⟩ := Kd.V_slice HO_423001.out
     subst eo78
     go_wp2
     go_ret2
     exact ⟨_, by first | rfl | (simp [errW_none, errW_some] <;> rfl) | (simp [*, errW_none, errW_some] <;> rfl), G.cR HO_6.out, G.cB HB.out⟩
 ·replace c4 := Bool.eq_false_iff.mpr c4
  subst c4
  have H1 : (some ((([] : List Int)), false)) = some (r1, r2) := by rw [if_neg (show ¬ (false = true) by decide)] at H; exact H
  clear H
  have H := H1
  clear H1
  obtain ⟨y416, hy416⟩ : ∃ y_ : List Int, y_ = (([] : List Int)) := ⟨_, rfl⟩
  replace H : (some (y416, false)) = some (r1, r2) := by first | (rw [hy416]; with_reducible exact H) | (have H2_ := (Option.bind_some _ _).symm.trans H; rw [hy416]; with_reducible exact H2_) | (have H2_ := (Option.bind_some _ _).symm.trans H; with_reducible exact H2_) | with_reducible exact H | (rw [hy416]; exact H) | exact H
  have Ny416 := Aside0.mk hy416
  clear hy416
  simp only [Option.some.injEq, Prod.mk.injEq] at H
  obtain ⟨rfl, rfl⟩ := H
  go_enter Try.func24, Try.ntmps24
  go_wp2_with (first | ((with_reducible refine gate_dst (N := 2) rfl ?_); refine G.be 2 #[.int .i64 a0_0, .slice A0_1 l0_1.length c0_1] 29 ?_; intro gb414 hg w79 hbox hb; have n0_ := Aside0.mk (Kd.V_below (Kd.V_elderB (G.cV HO0_1.out) gb414 (Nat.le_of_eq hg.symm)) hb); have n1_ := Aside0.mk (below_step (G.cB HB.out) hb); have n2_ := Aside0.mk (hbox); have n3_ := Aside0.mk ((c22_22 : w.heap.size ≤ gb414)); have n4_ := Aside0.mk ((c22_22 : w.heap.size ≤ gb414)); clear HO0_1 HB; revert n0_ n1_ n2_ n3_ n4_; intro HO0_1 HB BK414 GW414 GE414; clear hb hbox hg; have hcz80_0 : w79.cell? ⟨gb414, 0, none⟩ = some (.int .i64 a0_0) := (blk_cell BK414.out 0).trans rfl; have hcz80_1 : w79.cell? ⟨gb414, 1, none⟩ = some (.slice A0_1 l0_1.length c0_1) := (blk_cell BK414.out 1).trans rfl; have hfz80_0 := blk_frozen BK414.out 0; have hfz80_1 := blk_frozen BK414.out 1) | ((with_reducible refine gate_callee (f := 17) rfl ?_); refine goesL_ (some 13) rfl rfl Try.func17 (c22_23) rfl #[.agg #[.int .i64 a0_0, .slice A0_1 l0_1.length c0_1], .int .i64 a1] rfl (G.ar) ?_; (with_reducible refine (impl_TrailCan.calls k a0_0 _ _ l0_1 a1 false _ ?side1 ?side2 A3.out).mono ?_); (case side1 => repeat (first | exact (Kd.V_reads' HO0_1.out).2.2 | (with_reducible refine Kd.C_alloc ?_ _) | (with_reducible refine Kd.C_drewN ?_ _) | (with_reducible refine Kd.C_drew ?_))); (case side2 => exact (Kd.V_reads' HO0_1.out).2.1); rintro e w81 ⟨rfl, hb⟩; refine ⟨_, rfl, ?_⟩; have n0_ := Aside0.mk (Kd.V_below (G.cV HO0_1.out) hb); have n1_ := Aside0.mk (blk_below (g := gb414) (o := .cells #[.int .i64 a0_0, .slice A0_1 l0_1.length c0_1] 29 (0, 0)) (G.cb BK414.out) hb); have n2_ := Aside0.mk (below_step (G.cB HB.out) hb); clear HO0_1 BK414 HB; revert n0_ n1_ n2_; intro HO0_1 BK414 HB; (try clear hb); (try clear hb2); (try clear hk); (try clear hi)) | ((with_reducible refine gate_dst (N := 15) rfl ?_); refine Kd.R_lit (Kd.int .i64) _ 3 ?hg (N := 15) ?hd (xs := ([] : List Int)) (inner := []) (ok := fun _ => True) (okp := fun _ => True) ?hr ?hp (fun _ hk => hk) trivial (Below.refl _ _) (Nat.le_refl _) (by simp) ?_; (case hd => rfl); (case hg => rfl); (case hr => first | (go_simp; done) | (go_simp; rfl)); (case hp => exact (Reps.none _ _)); intro v417 w82 ho83 hb hg_ hnew_; clear hg_ hnew_; (first | rw [← Ny416.out] at ho83 | (simp only [Int.reduceToNat] at ho83; rw [← Ny416.out] at ho83)); have n0_ := Aside0.mk (Kd.V_elder' (G.cV HO0_1.out) (Kd.R_base ho83) hb); have n1_ := Aside0.mk (Kd.R_lower (Kd.R_newM (M := fun k_ => (w.heap.size ≤ k_)) ho83 (below_size (G.cB HB.out)) (fun k_ h_ => h_)) (below_size (G.cB HB.out))); have n2_ := Aside0.mk (blk_below (g := gb414) (o := .cells #[.int .i64 a0_0, .slice A0_1 l0_1.length c0_1] 29 (0, 0)) (G.cb BK414.out) hb); have n3_ := Aside0.mk (below_step (G.cB HB.out) hb); clear HO0_1 BK414 HB; revert n0_ n1_ n2_ n3_; intro HO0_1 HO418 BK414 HB; clear hb ho83))
  go_ret2
  exact ⟨_, by first | rfl | (simp [errW_none, errW_some] <;> rfl) | (simp [*, errW_none, errW_some] <;> rfl), by (with_reducible repeat (first | apply Kd.R_alloc | apply Kd.R_drewN | apply Kd.R_drew)); exact Kd.R_mono HO418.out (fun _ hk => hk.1), G.cB HB.out⟩

end Go.Proofs.Ytbkdpnfjcnkoeaa.P
