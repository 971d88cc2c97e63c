-- Printed by a program of this session (mp.py, over the kit's print). Not trusted: Lean checks it.
import Derived.Test.YtbkdpnfjcnkoeaaF0
import Derived.Test.YtbkdpnfjcnkoeaaF4
import Derived.Test.YtbkdpnfjcnkoeaaF8
namespace Go.Proofs.Ytbkdpnfjcnkoeaa.P
open Go.RowKit Go.Proofs.YtbkdpnfjcnkoeaaW.PrintWords Go.Proofs.YtbkdpnfjcnkoeaaW.PrintLast Go.Proofs.YtbkdpnfjcnkoeaaW.PrintMore
attribute [local go_sem] max2_int min2_int max_two min_two max_three min_three max_four min_four   -- for this text's walks alone
set_option linter.unusedVariables false
set_option linter.unusedSimpArgs false

theorem c16_0 {p : Prop} (h : p := by rw [hw]; exact (by (with_reducible repeat (first | refine blk_drewN ?_ _ | refine blk_drew ?_ | refine blk_alloc ?_ _)); refine blk_put (cs := #[.int .i64 ((rd_T63 l0_1 x17_1).f0), .int .i64 0]) ?_ 1 _ rfl; (with_reducible repeat (first | refine blk_drewN ?_ _ | refine blk_drew ?_ | refine blk_alloc ?_ _)); refine blk_put (cs := #[.int .i64 0, .int .i64 0]) ?_ 0 _ rfl; (with_reducible repeat (first | refine blk_drewN ?_ _ | refine blk_drew ?_ | refine blk_alloc ?_ _)); exact BK229.out)) : p := h
theorem c16_1 {p : Prop} (h : p := by (with_reducible repeat (first | refine blk_drewN ?_ _ | refine blk_drew ?_ | refine blk_alloc ?_ _)); refine blk_put (cs := #[.int .i64 ((rd_T63 l0_1 x17_1).f0), .int .i64 0]) ?_ 1 _ rfl; (with_reducible repeat (first | refine blk_drewN ?_ _ | refine blk_drew ?_ | refine blk_alloc ?_ _)); refine blk_put (cs := #[.int .i64 0, .int .i64 0]) ?_ 0 _ rfl; (with_reducible repeat (first | refine blk_drewN ?_ _ | refine blk_drew ?_ | refine blk_alloc ?_ _)); exact BK229.out) : p := h
theorem c16_2 {p : Prop} (h : p := by rw [hw]; exact (by (with_reducible repeat (first | refine blk_drewN ?_ _ | refine blk_drew ?_ | refine blk_alloc ?_ _)); refine blk_far ?_ NB224_229.out _; (with_reducible repeat (first | refine blk_drewN ?_ _ | refine blk_drew ?_ | refine blk_alloc ?_ _)); refine blk_far ?_ NB224_229.out _; (with_reducible repeat (first | refine blk_drewN ?_ _ | refine blk_drew ?_ | refine blk_alloc ?_ _)); exact BK224.out)) : p := h
theorem c16_3 {p : Prop} (h : p := by (with_reducible repeat (first | refine blk_drewN ?_ _ | refine blk_drew ?_ | refine blk_alloc ?_ _)); refine blk_far ?_ NB224_229.out _; (with_reducible repeat (first | refine blk_drewN ?_ _ | refine blk_drew ?_ | refine blk_alloc ?_ _)); refine blk_far ?_ NB224_229.out _; (with_reducible repeat (first | refine blk_drewN ?_ _ | refine blk_drew ?_ | refine blk_alloc ?_ _)); exact BK224.out) : p := h
theorem c16_4 {p : Prop} (h : p := by rw [hw]; exact (by (with_reducible repeat (first | apply Kd.R_alloc | apply Kd.R_drewN | apply Kd.R_drew)); exact Kd.R_mono (Kd.R_far (p := ⟨gb229, 1, none⟩) (Kd.R_far (p := ⟨gb229, 0, none⟩) (Kd.R_types HO_5.out BK229.out (by decide)) (fun _ hk => hk.2) (.int .i64 ((rd_T63 l0_1 x17_1).f0))) (fun _ hk => hk.2) (.int .i64 ((rd_T63 l0_1 x17_1).f1))) (fun _ hk => trivial))) : p := h
theorem c16_5 {p : Prop} (h : p := by (with_reducible repeat (first | apply Kd.R_alloc | apply Kd.R_drewN | apply Kd.R_drew)); exact Kd.R_mono (Kd.R_far (p := ⟨gb229, 1, none⟩) (Kd.R_far (p := ⟨gb229, 0, none⟩) (Kd.R_types HO_5.out BK229.out (by decide)) (fun _ hk => hk.2) (.int .i64 ((rd_T63 l0_1 x17_1).f0))) (fun _ hk => hk.2) (.int .i64 ((rd_T63 l0_1 x17_1).f1))) (fun _ hk => trivial)) : p := h
theorem c16_6 {p : Prop} (h : p := by rw [hg]; exact Nat.ne_of_lt (blk_lt (g := gb224) (o := .cells #[.int .i64 a0_0, .slice (some ad228) l0_1.length c0_1] 29 (0, 0)) (G.cb BK224.out))) : p := h
theorem c16_7 {p : Prop} (h : p := by rw [hg]; exact Nat.ne_of_gt (blk_lt (g := gb224) (o := .cells #[.int .i64 a0_0, .slice (some ad228) l0_1.length c0_1] 29 (0, 0)) (G.cb BK224.out))) : p := h
theorem c16_8 {p : Prop} (h : p := by first | rfl | (simp [errW_none, errW_some] <;> rfl) | (simp [*, errW_none, errW_some] <;> rfl)) : p := h
theorem c16_9 {p : Prop} (h : p := by first | rfl | (simp; done) | (simp [*]; done)) : p := h
theorem c16_10 {p : Prop} (h : p := by rw [hg]; exact (below_size (G.cB HB.out))) : p := h
/-! ### impl_Net_trail: function 44 -/
mutual
def impl_Net_trail.l0 : Nat → Int → List Int → List (S63) → Int → Int → Int → List (S63) → Option (Bool)
 | 0, _, _, _, _, _, _, _ => none
 | k + 1, x1, x5, x15, x16, x17, x225000, x225001 => if x17 < x16 then (if 0 ≤ x17 then (if x17 < (x15.length : Int) then (if 0 ≤ ((rd_T63 x15 x17).f0) then (if ((rd_T63 x15 x17).f0) < (x5.length : Int) then ((some (x5.set (((rd_T63 x15 x17).f0) : Int).toNat (wrap64 ((rd x5 ((rd_T63 x15 x17).f0)) + 1)) : List Int)).bind fun y231 => (if 0 ≤ ((rd_T63 x15 x17).f1) then (if ((rd_T63 x15 x17).f1) < (x5.length : Int) then ((impl_Net_joined.f k x225000 x225001 x1 ((rd_T63 x15 x17).f0)).bind fun t234 => (if t234 = true then (impl_Net_trail.l0 k x1 (y231.set (((rd_T63 x15 x17).f1) : Int).toNat (wrap64 ((rd y231 ((rd_T63 x15 x17).f1)) + 1))) x15 x16 (wrap64 (x17 + 1)) x225000 x225001) else (some false))) else (none)) else (none))) else (none)) else (none)) else (none)) else (none)) else (impl_Net_trail.l1 k x1 x5 0 x5 (x5.length : Int) 0)
def impl_Net_trail.l1 : Nat → Int → List Int → Int → List Int → Int → Int → Option (Bool)
 | 0, _, _, _, _, _, _ => none
 | k + 1, x1, x5, x8, x42, x43, x44 => if x44 < x43 then (if 0 ≤ x44 then (if x44 < (x42.length : Int) then (impl_Net_trail.l1 k x1 x5 (wrap64 (x8 + (Int.tmod (rd x42 x44) 2))) x42 x43 (wrap64 (x44 + 1))) else (none)) else (none)) else (if x8 = 0 then (some true) else (if x8 = 2 then (if 0 ≤ x1 then (if x1 < (x5.length : Int) then (some ((Int.tmod (rd x5 x1) 2) == 1)) else (none)) else (none)) else (some false)))
end
def impl_Net_trail.f (k : Nat) (a0_0 : Int) (l0_1 : List (S63)) (a1 : Int) : Option (Bool) := if 0 ≤ a0_0 then (if (a0_0 : Int).toNat ≤ 35184372088832 then (impl_Net_trail.l0 k a1 (List.replicate (a0_0 : Int).toNat 0) l0_1 (l0_1.length : Int) 0 a0_0 l0_1) else (none)) else (none)
theorem impl_Net_trail.mono_l : ∀ k, (∀ y0 y1 y2 y3 y4 y5 y6, LeO (impl_Net_trail.l0 k y0 y1 y2 y3 y4 y5 y6) (impl_Net_trail.l0 (k + 1) y0 y1 y2 y3 y4 y5 y6)) ∧ (∀ y0 y1 y2 y3 y4 y5, LeO (impl_Net_trail.l1 k y0 y1 y2 y3 y4 y5) (impl_Net_trail.l1 (k + 1) y0 y1 y2 y3 y4 y5))
 | 0 => ⟨fun _ _ _ _ _ _ _ r h => by simp [impl_Net_trail.l0] at h, fun _ _ _ _ _ _ r h => by simp [impl_Net_trail.l1] at h⟩
 | k + 1 => by
  obtain ⟨ih0, ih1⟩ := impl_Net_trail.mono_l k
  refine ⟨?_, ?_⟩
  ·intro y0 y1 y2 y3 y4 y5 y6
   unfold impl_Net_trail.l0
   repeat' first
   | (with_reducible exact ih0 _ _ _ _ _ _ _)
   | (with_reducible exact ih1 _ _ _ _ _ _)
   | (with_reducible exact impl_Net_joined.mono _ _ _ _ _)
   | (with_reducible exact LeO.refl _)
   | (with_reducible exact LeO.none _)
   | (with_reducible refine LeO.ite ?_ ?_)
   | (with_reducible refine LeO.bind ?_ (fun _ => ?_))
   | exact ih0 _ _ _ _ _ _ _
   | exact ih1 _ _ _ _ _ _
   | exact impl_Net_joined.mono _ _ _ _ _
   | exact LeO.none _
   | refine LeO.ite ?_ ?_
   | refine LeO.bind ?_ (fun _ => ?_)
  ·intro y0 y1 y2 y3 y4 y5
   unfold impl_Net_trail.l1
   repeat' first
   | (with_reducible exact ih0 _ _ _ _ _ _ _)
   | (with_reducible exact ih1 _ _ _ _ _ _)
   | (with_reducible exact impl_Net_joined.mono _ _ _ _ _)
   | (with_reducible exact LeO.refl _)
   | (with_reducible exact LeO.none _)
   | (with_reducible refine LeO.ite ?_ ?_)
   | (with_reducible refine LeO.bind ?_ (fun _ => ?_))
   | exact ih0 _ _ _ _ _ _ _
   | exact ih1 _ _ _ _ _ _
   | exact impl_Net_joined.mono _ _ _ _ _
   | exact LeO.none _
   | refine LeO.ite ?_ ?_
   | refine LeO.bind ?_ (fun _ => ?_)
theorem impl_Net_trail.mono : ∀ a0 a1 a2 k, LeO (impl_Net_trail.f k a0 a1 a2) (impl_Net_trail.f (k + 1) a0 a1 a2) := by
 intro a0 a1 a2 k
 obtain ⟨ih0, ih1⟩ := impl_Net_trail.mono_l k
 unfold impl_Net_trail.f
 repeat' first
   | (with_reducible exact ih0 _ _ _ _ _ _ _)
   | (with_reducible exact ih1 _ _ _ _ _ _)
   | (with_reducible exact impl_Net_joined.mono _ _ _ _ _)
   | (with_reducible exact LeO.refl _)
   | (with_reducible exact LeO.none _)
   | (with_reducible refine LeO.ite ?_ ?_)
   | (with_reducible refine LeO.bind ?_ (fun _ => ?_))
   | exact ih0 _ _ _ _ _ _ _
   | exact ih1 _ _ _ _ _ _
   | exact impl_Net_joined.mono _ _ _ _ _
   | exact LeO.none _
   | refine LeO.ite ?_ ?_
   | refine LeO.bind ?_ (fun _ => ?_)
set_option maxHeartbeats 8000000 in
set_option maxRecDepth 100000 in
theorem impl_Net_trail.calls (k : Nat) (a0_0 : Int) (A0_1 : Option Addr) (c0_1 : Nat) (l0_1 : List (S63)) (a1 : Int) (r : Bool) (w : World) (hr0_1 : Kd.C k63 w A0_1 l0_1.length l0_1) (hc0_1 : l0_1.length ≤ c0_1) (h : impl_Net_trail.f k a0_0 l0_1 a1 = some r) :
  Calls Try.prog 44 #[.agg #[.int .i64 a0_0, .slice A0_1 l0_1.length c0_1], .int .i64 a1] w fun e w' => e = .returned (.bool r) ∧ Below w.heap.size w w' := by
 have hu29 := Try.underlying29
 have hu63 := Try.underlying63
 have HR0_1 := Aside0.mk hr0_1
 have HC0_1 := Aside0.mk hc0_1
 clear hr0_1 hc0_1
 have HB := Aside0.mk (Below.refl w.heap.size w)
 have H : (if 0 ≤ a0_0 then (if (a0_0 : Int).toNat ≤ 35184372088832 then (impl_Net_trail.l0 k a1 (List.replicate (a0_0 : Int).toNat 0) l0_1 (l0_1.length : Int) 0 a0_0 l0_1) else (none)) else (none)) = some r := h
 clear h
 by_cases c3 : 0 ≤ a0_0
 ·rw [if_pos c3] at H
  have c3b0 := eq_true c3
  have c3b1 : decide (0 ≤ a0_0) = true := decide_eq_true c3
  clear c3
  by_cases c4 : (a0_0 : Int).toNat ≤ 35184372088832
  ·rw [if_pos c4] at H
   have c4b0 := eq_true c4
   have c4b1 : decide ((a0_0 : Int).toNat ≤ 35184372088832) = true := decide_eq_true c4
   clear c4
   obtain ⟨y225, hy225⟩ : ∃ y_ : List Int, y_ = (List.replicate (a0_0 : Int).toNat 0) := ⟨_, rfl⟩
   replace H : (impl_Net_trail.l0 k a1 y225 l0_1 (l0_1.length : Int) 0 a0_0 l0_1) = some r := by first | (rw [hy225]; with_reducible exact H) | (have H2_ := (Option.bind_some _ _).symm.trans H; rw [hy225]; with_reducible exact H2_) | (have H2_ := (Option.bind_some _ _).symm.trans H; with_reducible exact H2_) | with_reducible exact H | (rw [hy225]; exact H) | exact H
   have Ny225 := Aside0.mk hy225
   clear hy225
   have H' := Aside0.mk H
   clear H
   go_enter Try.func44, Try.ntmps44
   go_wp2_with (first | ((with_reducible refine gate_dst (N := 2) rfl ?_); refine G.be 2 #[.int .i64 a0_0, .slice A0_1 l0_1.length c0_1] 29 ?_; intro gb224 hg w5 hbox hb; have n0_ := Aside0.mk (below_step (G.cB HB.out) hb); have n1_ := Aside0.mk (hbox); have n2_ := Aside0.mk ((c16_10 : w.heap.size ≤ gb224)); have n3_ := Aside0.mk ((c16_10 : w.heap.size ≤ gb224)); clear HB; revert n0_ n1_ n2_ n3_; intro HB BK224 GW224 GE224; clear hb hbox hg; have hcz6_0 : w5.cell? ⟨gb224, 0, none⟩ = some (.int .i64 a0_0) := (blk_cell BK224.out 0).trans rfl; have hcz6_1 : w5.cell? ⟨gb224, 1, none⟩ = some (.slice A0_1 l0_1.length c0_1) := (blk_cell BK224.out 1).trans rfl; have hfz6_0 := blk_frozen BK224.out 0; have hfz6_1 := blk_frozen BK224.out 1) | ((with_reducible refine gate_dst (N := 13) rfl ?_); refine Kd.R_make (Kd.int .i64) _ 3 rfl (N := 13) rfl 33 _ _ rfl a0_0 rfl rfl Try.underlying33 (.int .i64 0) 8 info3 rfl (by decide) (by omega) 0 (ok := fun _ => True) (okp := fun _ => True) rfl (fun _ hk => hk) trivial (of_decide_eq_true (G.asm)) (Nat.le_trans (Nat.mul_le_mul_right _ (of_decide_eq_true (G.asm) : a0_0.toNat ≤ 35184372088832)) (by omega)) (Below.refl _ _) (Nat.le_refl _) ?_; intro v226 w7 ho8 hb hg_ hnew_; clear hg_ hnew_; (first | rw [← Ny225.out] at ho8 | (simp only [Int.reduceToNat] at ho8; rw [← Ny225.out] at ho8)); have n0_ := Aside0.mk (Kd.R_lower ho8 (below_size (G.cB HB.out))); have n1_ := Aside0.mk (blk_below (g := gb224) (o := .cells #[.int .i64 a0_0, .slice A0_1 l0_1.length c0_1] 29 (0, 0)) (G.cb BK224.out) hb); have n2_ := Aside0.mk (below_step (G.cB HB.out) hb); clear BK224 HB; revert n0_ n1_ n2_; intro HO227 BK224 HB; clear hb ho8; have hcz9_0 : w7.cell? ⟨gb224, 0, none⟩ = some (.int .i64 a0_0) := (blk_cell BK224.out 0).trans rfl; have hcz9_1 : w7.cell? ⟨gb224, 1, none⟩ = some (.slice A0_1 l0_1.length c0_1) := (blk_cell BK224.out 1).trans rfl; have hfz9_0 := blk_frozen BK224.out 0; have hfz9_1 := blk_frozen BK224.out 1))
   go_loopg [17] k (fun kq v17 w' => ∃ (x5_1 : List Int) (x17_1 : Int), v17 = .int .i64 x17_1 ∧ Aside0 (impl_Net_trail.l0 kq a1 x5_1 l0_1 (l0_1.length : Int) x17_1 a0_0 l0_1 = some r) ∧ Aside0 (kq ≤ k) ∧ Aside0 (Kd.R (Kd.int .i64) 3 w' w.heap.size (fun _ => True) v226 x5_1) ∧ Aside0 (w'.heap[gb224]? = some (.cells #[.int .i64 a0_0, (.slice A0_1 l0_1.length c0_1)] 29 (0, 0))) ∧ Aside0 (Below w.heap.size w w'))
   case atStart => exact ⟨(y225), (0), (c16_9), H', ⟨Nat.le_refl _⟩, ⟨G.cR HO227.out⟩, ⟨G.cb BK224.out⟩, ⟨G.cB HB.out⟩⟩
   case round =>
    clear H'
    (try clear p2); (try clear c3); (try clear c3b0); (try clear c3b1); (try clear c4); (try clear c4b0); (try clear c4b1); (try clear hcz6_0); (try clear hcz6_1); (try clear hcz9_0); (try clear hcz9_1); (try clear hfz6_0); (try clear hfz6_1); (try clear hfz9_0); (try clear hfz9_1)
    obtain ⟨x5_1, x17_1, rfl, HA, HK1, HO_5, BK224, HB⟩ := hrel
    cases gk with
    | zero => exact absurd HA.out (by simp [impl_Net_trail.l0])
    | succ k1 =>
     have H := HA.out
     clear HA
     simp only [impl_Net_trail.l0] at H
     by_cases c10 : x17_1 < (l0_1.length : Int)
     ·rw [if_pos c10] at H
      have c10b0 : decide (x17_1 < (l0_1.length : Int)) = true := decide_eq_true c10
      clear c10
      by_cases c11 : 0 ≤ x17_1
      ·rw [if_pos c11] at H
       have c11b0 : decide (0 ≤ x17_1) = true := decide_eq_true c11
       clear c11
       by_cases c12 : x17_1 < (l0_1.length : Int)
       ·rw [if_pos c12] at H
        have c12b0 : decide (x17_1 < (l0_1.length : Int)) = true := decide_eq_true c12
        clear c12
        by_cases c13 : 0 ≤ ((rd_T63 l0_1 x17_1).f0)
        ·rw [if_pos c13] at H
         have c13b0 : decide (0 ≤ ((rd_T63 l0_1 x17_1).f0)) = true := decide_eq_true c13
         clear c13
         by_cases c14 : ((rd_T63 l0_1 x17_1).f0) < (x5_1.length : Int)
         ·rw [if_pos c14] at H
          have c14b0 : decide (((rd_T63 l0_1 x17_1).f0) < (x5_1.length : Int)) = true := decide_eq_true c14
          clear c14
          obtain ⟨y231, hy231⟩ : ∃ y_ : List Int, y_ = (x5_1.set (((rd_T63 l0_1 x17_1).f0) : Int).toNat (wrap64 ((rd x5_1 ((rd_T63 l0_1 x17_1).f0)) + 1))) := ⟨_, rfl⟩
          replace H : (if 0 ≤ ((rd_T63 l0_1 x17_1).f1) then (if ((rd_T63 l0_1 x17_1).f1) < (x5_1.length : Int) then ((impl_Net_joined.f k1 a0_0 l0_1 a1 ((rd_T63 l0_1 x17_1).f0)).bind fun t234 => (if t234 = true then (impl_Net_trail.l0 k1 a1 (y231.set (((rd_T63 l0_1 x17_1).f1) : Int).toNat (wrap64 ((rd y231 ((rd_T63 l0_1 x17_1).f1)) + 1))) l0_1 (l0_1.length : Int) (wrap64 (x17_1 + 1)) a0_0 l0_1) else (some false))) else (none)) else (none)) = some r := by first | (rw [hy231]; with_reducible exact H) | (have H2_ := (Option.bind_some _ _).symm.trans H; rw [hy231]; with_reducible exact H2_) | (have H2_ := (Option.bind_some _ _).symm.trans H; with_reducible exact H2_) | with_reducible exact H | (rw [hy231]; exact H) | exact H
          have Ny231 := Aside0.mk hy231
          clear hy231
          by_cases c16 : 0 ≤ ((rd_T63 l0_1 x17_1).f1)
          ·rw [if_pos c16] at H
           have c16b0 : decide (0 ≤ ((rd_T63 l0_1 x17_1).f1)) = true := decide_eq_true c16
           clear c16
           by_cases c17 : ((rd_T63 l0_1 x17_1).f1) < (x5_1.length : Int)
           ·rw [if_pos c17] at H
            have c17b0 : decide (((rd_T63 l0_1 x17_1).f1) < (x5_1.length : Int)) = true := decide_eq_true c17
            clear c17
            obtain ⟨y233, hy233⟩ : ∃ y_ : List Int, y_ = (y231.set (((rd_T63 l0_1 x17_1).f1) : Int).toNat (wrap64 ((rd y231 ((rd_T63 l0_1 x17_1).f1)) + 1))) := ⟨_, rfl⟩
            replace H : ((impl_Net_joined.f k1 a0_0 l0_1 a1 ((rd_T63 l0_1 x17_1).f0)).bind fun t234 => (if t234 = true then (impl_Net_trail.l0 k1 a1 y233 l0_1 (l0_1.length : Int) (wrap64 (x17_1 + 1)) a0_0 l0_1) else (some false))) = some r := by first | (rw [hy233]; with_reducible exact H) | (have H2_ := (Option.bind_some _ _).symm.trans H; rw [hy233]; with_reducible exact H2_) | (have H2_ := (Option.bind_some _ _).symm.trans H; with_reducible exact H2_) | with_reducible exact H | (rw [hy233]; exact H) | exact H
            have Ny233 := Aside0.mk hy233
            clear hy233
            replace H := Option.bind_eq_some_iff.mp H
            obtain ⟨t234, A190, H⟩ := H
            replace H : (if t234 = true then (impl_Net_trail.l0 k1 a1 y233 l0_1 (l0_1.length : Int) (wrap64 (x17_1 + 1)) a0_0 l0_1) else (some false)) = some r := H
            have A19 := Aside0.mk A190
            clear A190
            by_cases c20 : t234 = true
            ·subst c20
             have H1 : (impl_Net_trail.l0 k1 a1 y233 l0_1 (l0_1.length : Int) (wrap64 (x17_1 + 1)) a0_0 l0_1) = some r := by rw [if_pos rfl] at H; exact H
             clear H
             have H := H1
             clear H1
             have H' := Aside0.mk H
             clear H
             have p228 : 0 ≤ (x17_1 : Int) := of_decide_eq_true (G.asm)
             have q228 : x17_1 < (l0_1.length : Int) := of_decide_eq_true (G.asm)
             obtain ⟨ad228, e228, hx228_0, hx228_1⟩ := at_T63 HR0_1.out x17_1 p228 q228
             cases e228
             replace hx228_0 := (HB.out.cell (World.block_lt_of_cell? w _ hx228_0)).trans hx228_0
             replace hx228_1 := (HB.out.cell (World.block_lt_of_cell? w _ hx228_1)).trans hx228_1
             replace p228 := eq_true p228
             replace q228 := eq_true q228
             go_wp2_with (first | ((with_reducible refine gate_dst (N := 7) rfl ?_); refine G.be 7 #[.int .i64 0, .int .i64 0] 63 ?_; intro gb229 hg w21 hbox hb; have n0_ := Aside0.mk (Kd.R_below (G.cR HO_5.out) hb); have n1_ := Aside0.mk (blk_below (g := gb224) (o := .cells #[.int .i64 a0_0, .slice (some ad228) l0_1.length c0_1] 29 (0, 0)) (G.cb BK224.out) hb); have n2_ := Aside0.mk (below_step (G.cB HB.out) hb); have n3_ := Aside0.mk (hbox); have n4_ := Aside0.mk ((c16_10 : w.heap.size ≤ gb229)); have n5_ := Aside0.mk ((c16_10 : w.heap.size ≤ gb229)); have n6_ := Aside0.mk ((c16_6 : gb224 ≠ gb229)); have n7_ := Aside0.mk ((c16_7 : gb229 ≠ gb224)); clear HO_5 BK224 HB; revert n0_ n1_ n2_ n3_ n4_ n5_ n6_ n7_; intro HO_5 BK224 HB BK229 GW229 GE229 NB224_229 NB229_224; clear hb hbox hg; have hnb22 := NB229_224.out; have hnc22 := NB224_229.out; have hcz23_0 : w21.cell? ⟨gb229, 0, none⟩ = some (.int .i64 0) := (blk_cell BK229.out 0).trans rfl; have hcz23_1 : w21.cell? ⟨gb229, 1, none⟩ = some (.int .i64 0) := (blk_cell BK229.out 1).trans rfl; have hfz23_0 := blk_frozen BK229.out 0; have hfz23_1 := blk_frozen BK229.out 1) | ((with_reducible refine gate_store (t := 63) (p := 7) rfl ?_); refine store_event (t := 63) (p := 7) (v := ?vo_w24) (w1 := ((w21.setCell ⟨gb229, 0, none⟩ (.int .i64 ((rd_T63 l0_1 x17_1).f0))).setCell ⟨gb229, 1, none⟩ (.int .i64 ((rd_T63 l0_1 x17_1).f1)))) ?hg ?ho ?hn ?hr ?_; (case ho => rfl); (case hg => rfl); (case hn => rfl); (case hr => first | (go_simp; done) | (go_simp; rfl)); intro w24 hw; have n0_ : Aside0 (Kd.R (Kd.int .i64) 3 w24 w.heap.size (fun _ => True) v226 x5_1) := ⟨(c16_4)⟩; have n1_ : Aside0 (w24.heap[gb224]? = some (.cells #[.int .i64 a0_0, .slice (some ad228) l0_1.length c0_1] 29 (0, 0))) := ⟨(c16_2)⟩; have n2_ : Aside0 (w24.heap[gb229]? = some (.cells #[.int .i64 ((rd_T63 l0_1 x17_1).f0), .int .i64 ((rd_T63 l0_1 x17_1).f1)] 63 (0, 0))) := ⟨(c16_0)⟩; have n3_ : Aside0 (Below w.heap.size w w24) := ⟨(by rw [hw]; exact (G.cB HB.out))⟩; clear hw HO_5 BK224 BK229 HB; revert n0_ n1_ n2_ n3_; intro HO_5 BK224 BK229 HB; have hcz25_0 : w24.cell? ⟨gb229, 0, none⟩ = some (.int .i64 ((rd_T63 l0_1 x17_1).f0)) := (blk_cell BK229.out 0).trans rfl; have hcz25_1 : w24.cell? ⟨gb229, 1, none⟩ = some (.int .i64 ((rd_T63 l0_1 x17_1).f1)) := (blk_cell BK229.out 1).trans rfl; have hfz25_0 := blk_frozen BK229.out 0; have hfz25_1 := blk_frozen BK229.out 1; obtain ⟨Ao26, co26, eo26⟩ := Kd.R_slice HO_5.out; subst eo26; have p230 : 0 ≤ (((rd_T63 l0_1 x17_1).f0) : Int) := of_decide_eq_true (G.asm); have q230 : ((rd_T63 l0_1 x17_1).f0) < (x5_1.length : Int) := of_decide_eq_true (G.asm); obtain ⟨ad230, e230, hx230_0⟩ := Kd.at_int (Kd.R_reads' HO_5.out).2.2 ((rd_T63 l0_1 x17_1).f0) p230 q230; cases e230; replace p230 := eq_true p230; replace q230 := eq_true q230; have p15 : 0 ≤ (((rd_T63 l0_1 x17_1).f0) : Int) := of_decide_eq_true (G.asm); have q15 : (((rd_T63 l0_1 x17_1).f0) : Int) < ((x5_1.length : Int) : Int) := of_decide_eq_true (G.asm); obtain ⟨go15, co15, eo15, gb15, gl15, cl15, HG15⟩ := Kd.R_form HO_5.out (by omega); (first | cases eo15 | (injection eo15 with ea_ en_ ec_; (first | subst ea_ | (injection ea_ with ea_; subst ea_)); subst ec_; clear en_)); have GB15 := Aside0.mk gb15; have GG15 := Aside0.mk HG15; clear gb15 gl15 HG15; (first | simp only [add_plain] at hx230_0 | skip); obtain ⟨hx15_0, hf15_0⟩ := Kd.R_celln 0 HO_5.out (((rd_T63 l0_1 x17_1).f0) : Int) p15 q15; replace p15 := eq_true p15; replace q15 := eq_true q15; obtain ⟨hy27_, hz27_⟩ := Kd.R_celln 0 HO_5.out (((rd_T63 l0_1 x17_1).f0) : Int) (of_decide_eq_true (G.asm)) (of_decide_eq_true (G.asm)); have HP27 := Kd.R_putg HO_5.out (((rd_T63 l0_1 x17_1).f0) : Int) (wrap64 ((rd x5_1 ((rd_T63 l0_1 x17_1).f0)) + 1))) | ((with_reducible refine gate_store (t := 3) (p := 27) rfl ?_); refine store_event (t := 3) (p := 27) (v := ?vo_w28) (w1 := (w24.setCell ⟨go15, (((rd_T63 l0_1 x17_1).f0) : Int).toNat, none⟩ (.int .i64 (wrap64 ((rd x5_1 ((rd_T63 l0_1 x17_1).f0)) + 1))))) ?hg ?ho ?hn ?hr ?_; (case ho => rfl); (case hg => rfl); (case hn => rfl); (case hr => first | (go_simp; done) | (go_simp; rfl)); intro w28 hw; have hg : w24.grownBy w28 (some go15) := (by rw [hw]; exact HP27.2); have hp_ : Kd.R (Kd.int .i64) 3 w28 w.heap.size (fun _ => True) (.slice (some ⟨go15, 0, none⟩) x5_1.length co26) y231 := (by rw [hw, Ny231.out]; exact HP27.1); clear HP27; have n0_ := Aside0.mk (hp_); have n1_ := Aside0.mk (blk_grown (g := gb224) (o := .cells #[.int .i64 a0_0, .slice (some ad228) l0_1.length c0_1] 29 (0, 0)) (G.cb BK224.out) hg (Kd.R_ne HO_5.out BK224.out (by decide))); have n2_ := Aside0.mk (blk_grown (g := gb229) (o := .cells #[.int .i64 ((rd_T63 l0_1 x17_1).f0), .int .i64 ((rd_T63 l0_1 x17_1).f1)] 63 (0, 0)) (G.cb BK229.out) hg (Kd.R_ne HO_5.out BK229.out (by decide))); have n3_ := Aside0.mk ((by rw [hw]; exact below_set (HB.out) GB15.out : Below w.heap.size w w28)); clear HO_5 BK224 BK229 HB; revert n0_ n1_ n2_ n3_; intro HO_5 BK224 BK229 HB; clear hg hw hp_; have hcz29_0 : w28.cell? ⟨gb229, 0, none⟩ = some (.int .i64 ((rd_T63 l0_1 x17_1).f0)) := (blk_cell BK229.out 0).trans rfl; have hcz29_1 : w28.cell? ⟨gb229, 1, none⟩ = some (.int .i64 ((rd_T63 l0_1 x17_1).f1)) := (blk_cell BK229.out 1).trans rfl; have hfz29_0 := blk_frozen BK229.out 0; have hfz29_1 := blk_frozen BK229.out 1; have p232 : 0 ≤ (((rd_T63 l0_1 x17_1).f1) : Int) := of_decide_eq_true (G.asm); have q232 : ((rd_T63 l0_1 x17_1).f1) < (y231.length : Int) := (by have h_ : (((rd_T63 l0_1 x17_1).f1) : Int) < ((x5_1.length : Int) : Int) := of_decide_eq_true (G.asm); first | (have e_ := (Kd.R_reads' HO_5.out).1; omega) | simpa only [Ny231.out, List.length_set] using h_); have ql232 : ((((rd_T63 l0_1 x17_1).f1) : Int) < ((x5_1.length : Int) : Int)) = True := eq_true (of_decide_eq_true (G.asm)); obtain ⟨ad232, e232, hx232_0⟩ := Kd.at_int (Kd.R_reads' HO_5.out).2.2 ((rd_T63 l0_1 x17_1).f1) p232 q232; obtain rfl : (⟨go15, 0, none⟩ : Addr) = ad232 := (by injection e232); (first | simp only [add_plain] at hx232_0 | simp only [add_at] at hx232_0 | simp only [Addr.add, Nat.zero_add] at hx232_0 | skip); replace p232 := eq_true p232; replace q232 := eq_true q232; have p18 : 0 ≤ (((rd_T63 l0_1 x17_1).f1) : Int) := of_decide_eq_true (G.asm); have q18 : (((rd_T63 l0_1 x17_1).f1) : Int) < ((x5_1.length : Int) : Int) := of_decide_eq_true (G.asm); obtain ⟨hx18_0, hf18_0⟩ := Kd.R_celln 0 HO_5.out (((rd_T63 l0_1 x17_1).f1) : Int) p18 q18; replace p18 := eq_true p18; replace q18 := eq_true q18; obtain ⟨hy30_, hz30_⟩ := Kd.R_celln 0 HO_5.out (((rd_T63 l0_1 x17_1).f1) : Int) (of_decide_eq_true (G.asm)) (of_decide_eq_true (G.asm)); have HP30 := Kd.R_putg HO_5.out (((rd_T63 l0_1 x17_1).f1) : Int) (wrap64 ((rd y231 ((rd_T63 l0_1 x17_1).f1)) + 1))) | ((with_reducible refine gate_store (t := 3) (p := 34) rfl ?_); refine store_event (t := 3) (p := 34) (v := ?vo_w31) (w1 := (w28.setCell ⟨go15, (((rd_T63 l0_1 x17_1).f1) : Int).toNat, none⟩ (.int .i64 (wrap64 ((rd y231 ((rd_T63 l0_1 x17_1).f1)) + 1))))) ?hg ?ho ?hn ?hr ?_; (case ho => rfl); (case hg => rfl); (case hn => rfl); (case hr => first | (go_simp; done) | (go_simp; rfl)); intro w31 hw; have hg : w28.grownBy w31 (some go15) := (by rw [hw]; exact HP30.2); have hp_ : Kd.R (Kd.int .i64) 3 w31 w.heap.size (fun _ => True) (.slice (some ⟨go15, 0, none⟩) x5_1.length co26) y233 := (by rw [hw, Ny233.out]; exact HP30.1); clear HP30; have n0_ := Aside0.mk (hp_); have n1_ := Aside0.mk (blk_grown (g := gb224) (o := .cells #[.int .i64 a0_0, .slice (some ad228) l0_1.length c0_1] 29 (0, 0)) (G.cb BK224.out) hg (Kd.R_ne HO_5.out BK224.out (by decide))); have n2_ := Aside0.mk (blk_grown (g := gb229) (o := .cells #[.int .i64 ((rd_T63 l0_1 x17_1).f0), .int .i64 ((rd_T63 l0_1 x17_1).f1)] 63 (0, 0)) (G.cb BK229.out) hg (Kd.R_ne HO_5.out BK229.out (by decide))); have n3_ := Aside0.mk ((by rw [hw]; exact below_set (HB.out) GB15.out : Below w.heap.size w w31)); clear HO_5 BK224 BK229 HB; revert n0_ n1_ n2_ n3_; intro HO_5 BK224 BK229 HB; clear hg hw hp_; have hcz32_0 : w31.cell? ⟨gb224, 0, none⟩ = some (.int .i64 a0_0) := (blk_cell BK224.out 0).trans rfl; have hcz32_1 : w31.cell? ⟨gb224, 1, none⟩ = some (.slice (some ad228) l0_1.length c0_1) := (blk_cell BK224.out 1).trans rfl; have hfz32_0 := blk_frozen BK224.out 0; have hfz32_1 := blk_frozen BK224.out 1; have hcz33_0 : w31.cell? ⟨gb229, 0, none⟩ = some (.int .i64 ((rd_T63 l0_1 x17_1).f0)) := (blk_cell BK229.out 0).trans rfl; have hcz33_1 : w31.cell? ⟨gb229, 1, none⟩ = some (.int .i64 ((rd_T63 l0_1 x17_1).f1)) := (blk_cell BK229.out 1).trans rfl; have hfz33_0 := blk_frozen BK229.out 0; have hfz33_1 := blk_frozen BK229.out 1) | ((with_reducible refine gate_callee (f := 64) rfl ?_); refine goesL_ (some 39) rfl rfl Try.func64 (by kernel_rfl) rfl #[.agg #[.int .i64 a0_0, .slice (some ad228) l0_1.length c0_1], .int .i64 a1, .int .i64 ((rd_T63 l0_1 x17_1).f0)] rfl (G.ar) ?_; (with_reducible refine (impl_Net_joined.calls k1 a0_0 _ _ l0_1 a1 ((rd_T63 l0_1 x17_1).f0) true _ ?side1 ?side2 A19.out).mono ?_); (case side1 => repeat (first | exact (Kd.C_below HR0_1.out HB.out) | (with_reducible refine Kd.C_alloc ?_ _) | (with_reducible refine Kd.C_drewN ?_ _) | (with_reducible refine Kd.C_drew ?_))); (case side2 => exact HC0_1.out); rintro e w34 ⟨rfl, hb⟩; refine ⟨_, rfl, ?_⟩; have n0_ := Aside0.mk (Kd.R_below (G.cR HO_5.out) hb); have n1_ := Aside0.mk (blk_below (g := gb224) (o := .cells #[.int .i64 a0_0, .slice (some ad228) l0_1.length c0_1] 29 (0, 0)) (G.cb BK224.out) hb); have n2_ := Aside0.mk (blk_below (g := gb229) (o := .cells #[.int .i64 ((rd_T63 l0_1 x17_1).f0), .int .i64 ((rd_T63 l0_1 x17_1).f1)] 63 (0, 0)) (G.cb BK229.out) hb); have n3_ := Aside0.mk (below_step (G.cB HB.out) hb); clear HO_5 BK224 BK229 HB; revert n0_ n1_ n2_ n3_; intro HO_5 BK224 BK229 HB; (try clear hb); (try clear hb2); (try clear hk); (try clear hi)))
             go_roundg k1
             case measure => have := HK1.out; omega
             case rel => exact ⟨(y233), (wrap64 (x17_1 + 1)), (c16_9), H', ⟨by have := HK1.out; omega⟩, ⟨G.cR HO_5.out⟩, ⟨G.cb BK224.out⟩, ⟨G.cB HB.out⟩⟩
            ·replace c20 := Bool.eq_false_iff.mpr c20
             subst c20
             have H1 : (some false) = some r := by rw [if_neg (show ¬ (false = true) by decide)] at H; exact H
             clear H
             have H := H1
             clear H1
             obtain rfl := Option.some.inj H
             have p228 : 0 ≤ (x17_1 : Int) := of_decide_eq_true (G.asm)
             have q228 : x17_1 < (l0_1.length : Int) := of_decide_eq_true (G.asm)
             obtain ⟨ad228, e228, hx228_0, hx228_1⟩ := at_T63 HR0_1.out x17_1 p228 q228
             cases e228
             replace hx228_0 := (HB.out.cell (World.block_lt_of_cell? w _ hx228_0)).trans hx228_0
             replace hx228_1 := (HB.out.cell (World.block_lt_of_cell? w _ hx228_1)).trans hx228_1
             replace p228 := eq_true p228
             replace q228 := eq_true q228
             go_wp2_with (first | ((with_reducible refine gate_dst (N := 7) rfl ?_); refine G.be 7 #[.int .i64 0, .int .i64 0] 63 ?_; intro gb229 hg w35 hbox hb; have n0_ := Aside0.mk (Kd.R_below (G.cR HO_5.out) hb); have n1_ := Aside0.mk (blk_below (g := gb224) (o := .cells #[.int .i64 a0_0, .slice (some ad228) l0_1.length c0_1] 29 (0, 0)) (G.cb BK224.out) hb); have n2_ := Aside0.mk (below_step (G.cB HB.out) hb); have n3_ := Aside0.mk (hbox); have n4_ := Aside0.mk ((c16_10 : w.heap.size ≤ gb229)); have n5_ := Aside0.mk ((c16_10 : w.heap.size ≤ gb229)); have n6_ := Aside0.mk ((c16_6 : gb224 ≠ gb229)); have n7_ := Aside0.mk ((c16_7 : gb229 ≠ gb224)); clear HO_5 BK224 HB; revert n0_ n1_ n2_ n3_ n4_ n5_ n6_ n7_; intro HO_5 BK224 HB BK229 GW229 GE229 NB224_229 NB229_224; clear hb hbox hg; have hnb36 := NB229_224.out; have hnc36 := NB224_229.out; have hcz37_0 : w35.cell? ⟨gb229, 0, none⟩ = some (.int .i64 0) := (blk_cell BK229.out 0).trans rfl; have hcz37_1 : w35.cell? ⟨gb229, 1, none⟩ = some (.int .i64 0) := (blk_cell BK229.out 1).trans rfl; have hfz37_0 := blk_frozen BK229.out 0; have hfz37_1 := blk_frozen BK229.out 1) | ((with_reducible refine gate_store (t := 63) (p := 7) rfl ?_); refine store_event (t := 63) (p := 7) (v := ?vo_w38) (w1 := ((w35.setCell ⟨gb229, 0, none⟩ (.int .i64 ((rd_T63 l0_1 x17_1).f0))).setCell ⟨gb229, 1, none⟩ (.int .i64 ((rd_T63 l0_1 x17_1).f1)))) ?hg ?ho ?hn ?hr ?_; (case ho => rfl); (case hg => rfl); (case hn => rfl); (case hr => first | (go_simp; done) | (go_simp; rfl)); intro w38 hw; have n0_ : Aside0 (Kd.R (Kd.int .i64) 3 w38 w.heap.size (fun _ => True) v226 x5_1) := ⟨(c16_4)⟩; have n1_ : Aside0 (w38.heap[gb224]? = some (.cells #[.int .i64 a0_0, .slice (some ad228) l0_1.length c0_1] 29 (0, 0))) := ⟨(c16_2)⟩; have n2_ : Aside0 (w38.heap[gb229]? = some (.cells #[.int .i64 ((rd_T63 l0_1 x17_1).f0), .int .i64 ((rd_T63 l0_1 x17_1).f1)] 63 (0, 0))) := ⟨(c16_0)⟩; have n3_ : Aside0 (Below w.heap.size w w38) := ⟨(by rw [hw]; exact (G.cB HB.out))⟩; clear hw HO_5 BK224 BK229 HB; revert n0_ n1_ n2_ n3_; intro HO_5 BK224 BK229 HB; have hcz39_0 : w38.cell? ⟨gb229, 0, none⟩ = some (.int .i64 ((rd_T63 l0_1 x17_1).f0)) := (blk_cell BK229.out 0).trans rfl; have hcz39_1 : w38.cell? ⟨gb229, 1, none⟩ = some (.int .i64 ((rd_T63 l0_1 x17_1).f1)) := (blk_cell BK229.out 1).trans rfl; have hfz39_0 := blk_frozen BK229.out 0; have hfz39_1 := blk_frozen BK229.out 1; obtain ⟨Ao40, co40, eo40⟩ := Kd.R_slice HO_5.out; subst eo40; have p230 : 0 ≤ (((rd_T63 l0_1 x17_1).f0) : Int) := of_decide_eq_true (G.asm); have q230 : ((rd_T63 l0_1 x17_1).f0) < (x5_1.length : Int) := of_decide_eq_true (G.asm); obtain ⟨ad230, e230, hx230_0⟩ := Kd.at_int (Kd.R_reads' HO_5.out).2.2 ((rd_T63 l0_1 x17_1).f0) p230 q230; cases e230; replace p230 := eq_true p230; replace q230 := eq_true q230; have p15 : 0 ≤ (((rd_T63 l0_1 x17_1).f0) : Int) := of_decide_eq_true (G.asm); have q15 : (((rd_T63 l0_1 x17_1).f0) : Int) < ((x5_1.length : Int) : Int) := of_decide_eq_true (G.asm); obtain ⟨go15, co15, eo15, gb15, gl15, cl15, HG15⟩ := Kd.R_form HO_5.out (by omega); (first | cases eo15 | (injection eo15 with ea_ en_ ec_; (first | subst ea_ | (injection ea_ with ea_; subst ea_)); subst ec_; clear en_)); have GB15 := Aside0.mk gb15; have GG15 := Aside0.mk HG15; clear gb15 gl15 HG15; (first | simp only [add_plain] at hx230_0 | skip); obtain ⟨hx15_0, hf15_0⟩ := Kd.R_celln 0 HO_5.out (((rd_T63 l0_1 x17_1).f0) : Int) p15 q15; replace p15 := eq_true p15; replace q15 := eq_true q15; obtain ⟨hy41_, hz41_⟩ := Kd.R_celln 0 HO_5.out (((rd_T63 l0_1 x17_1).f0) : Int) (of_decide_eq_true (G.asm)) (of_decide_eq_true (G.asm)); have HP41 := Kd.R_putg HO_5.out (((rd_T63 l0_1 x17_1).f0) : Int) (wrap64 ((rd x5_1 ((rd_T63 l0_1 x17_1).f0)) + 1))) | ((with_reducible refine gate_store (t := 3) (p := 27) rfl ?_); refine store_event (t := 3) (p := 27) (v := ?vo_w42) (w1 := (w38.setCell ⟨go15, (((rd_T63 l0_1 x17_1).f0) : Int).toNat, none⟩ (.int .i64 (wrap64 ((rd x5_1 ((rd_T63 l0_1 x17_1).f0)) + 1))))) ?hg ?ho ?hn ?hr ?_; (case ho => rfl); (case hg => rfl); (case hn => rfl); (case hr => first | (go_simp; done) | (go_simp; rfl)); intro w42 hw; have hg : w38.grownBy w42 (some go15) := (by rw [hw]; exact HP41.2); have hp_ : Kd.R (Kd.int .i64) 3 w42 w.heap.size (fun _ => True) (.slice (some ⟨go15, 0, none⟩) x5_1.length co40) y231 := (by rw [hw, Ny231.out]; exact HP41.1); clear HP41; have n0_ := Aside0.mk (hp_); have n1_ := Aside0.mk (blk_grown (g := gb224) (o := .cells #[.int .i64 a0_0, .slice (some ad228) l0_1.length c0_1] 29 (0, 0)) (G.cb BK224.out) hg (Kd.R_ne HO_5.out BK224.out (by decide))); have n2_ := Aside0.mk (blk_grown (g := gb229) (o := .cells #[.int .i64 ((rd_T63 l0_1 x17_1).f0), .int .i64 ((rd_T63 l0_1 x17_1).f1)] 63 (0, 0)) (G.cb BK229.out) hg (Kd.R_ne HO_5.out BK229.out (by decide))); have n3_ := Aside0.mk ((by rw [hw]; exact below_set (HB.out) GB15.out : Below w.heap.size w w42)); clear HO_5 BK224 BK229 HB; revert n0_ n1_ n2_ n3_; intro HO_5 BK224 BK229 HB; clear hg hw hp_; have hcz43_0 : w42.cell? ⟨gb229, 0, none⟩ = some (.int .i64 ((rd_T63 l0_1 x17_1).f0)) := (blk_cell BK229.out 0).trans rfl; have hcz43_1 : w42.cell? ⟨gb229, 1, none⟩ = some (.int .i64 ((rd_T63 l0_1 x17_1).f1)) := (blk_cell BK229.out 1).trans rfl; have hfz43_0 := blk_frozen BK229.out 0; have hfz43_1 := blk_frozen BK229.out 1; have p232 : 0 ≤ (((rd_T63 l0_1 x17_1).f1) : Int) := of_decide_eq_true (G.asm); have q232 : ((rd_T63 l0_1 x17_1).f1) < (y231.length : Int) := (by have h_ : (((rd_T63 l0_1 x17_1).f1) : Int) < ((x5_1.length : Int) : Int) := of_decide_eq_true (G.asm); first | (have e_ := (Kd.R_reads' HO_5.out).1; omega) | simpa only [Ny231.out, List.length_set] using h_); have ql232 : ((((rd_T63 l0_1 x17_1).f1) : Int) < ((x5_1.length : Int) : Int)) = True := eq_true (of_decide_eq_true (G.asm)); obtain ⟨ad232, e232, hx232_0⟩ := Kd.at_int (Kd.R_reads' HO_5.out).2.2 ((rd_T63 l0_1 x17_1).f1) p232 q232; obtain rfl : (⟨go15, 0, none⟩ : Addr) = ad232 := (by injection e232); (first | simp only [add_plain] at hx232_0 | simp only [add_at] at hx232_0 | simp only [Addr.add, Nat.zero_add] at hx232_0 | skip); replace p232 := eq_true p232; replace q232 := eq_true q232; have p18 : 0 ≤ (((rd_T63 l0_1 x17_1).f1) : Int) := of_decide_eq_true (G.asm); have q18 : (((rd_T63 l0_1 x17_1).f1) : Int) < ((x5_1.length : Int) : Int) := of_decide_eq_true (G.asm); obtain ⟨hx18_0, hf18_0⟩ := Kd.R_celln 0 HO_5.out (((rd_T63 l0_1 x17_1).f1) : Int) p18 q18; replace p18 := eq_true p18; replace q18 := eq_true q18; obtain ⟨hy44_, hz44_⟩ := Kd.R_celln 0 HO_5.out (((rd_T63 l0_1 x17_1).f1) : Int) (of_decide_eq_true (G.asm)) (of_decide_eq_true (G.asm)); have HP44 := Kd.R_putg HO_5.out (((rd_T63 l0_1 x17_1).f1) : Int) (wrap64 ((rd y231 ((rd_T63 l0_1 x17_1).f1)) + 1))) | ((with_reducible refine gate_store (t := 3) (p := 34) rfl ?_); refine store_event (t := 3) (p := 34) (v := ?vo_w45) (w1 := (w42.setCell ⟨go15, (((rd_T63 l0_1 x17_1).f1) : Int).toNat, none⟩ (.int .i64 (wrap64 ((rd y231 ((rd_T63 l0_1 x17_1).f1)) + 1))))) ?hg ?ho ?hn ?hr ?_; (case ho => rfl); (case hg => rfl); (case hn => rfl); (case hr => first | (go_simp; done) | (go_simp; rfl)); intro w45 hw; have hg : w42.grownBy w45 (some go15) := (by rw [hw]; exact HP44.2); have hp_ : Kd.R (Kd.int .i64) 3 w45 w.heap.size (fun _ => True) (.slice (some ⟨go15, 0, none⟩) x5_1.length co40) y233 := (by rw [hw, Ny233.out]; exact HP44.1); clear HP44; have n0_ := Aside0.mk (hp_); have n1_ := Aside0.mk (blk_grown (g := gb224) (o := .cells #[.int .i64 a0_0, .slice (some ad228) l0_1.length c0_1] 29 (0, 0)) (G.cb BK224.out) hg (Kd.R_ne HO_5.out BK224.out (by decide))); have n2_ := Aside0.mk (blk_grown (g := gb229) (o := .cells #[.int .i64 ((rd_T63 l0_1 x17_1).f0), .int .i64 ((rd_T63 l0_1 x17_1).f1)] 63 (0, 0)) (G.cb BK229.out) hg (Kd.R_ne HO_5.out BK229.out (by decide))); have n3_ := Aside0.mk ((by rw [hw]; exact below_set (HB.out) GB15.out : Below w.heap.size w w45)); clear HO_5 BK224 BK229 HB; revert n0_ n1_ n2_ n3_; intro HO_5 BK224 BK229 HB; clear hg hw hp_; have hcz46_0 : w45.cell? ⟨gb224, 0, none⟩ = some (.int .i64 a0_0) := (blk_cell BK224.out 0).trans rfl; have hcz46_1 : w45.cell? ⟨gb224, 1, none⟩ = some (.slice (some ad228) l0_1.length c0_1) := (blk_cell BK224.out 1).trans rfl; have hfz46_0 := blk_frozen BK224.out 0; have hfz46_1 := blk_frozen BK224.out 1; have hcz47_0 : w45.cell? ⟨gb229, 0, none⟩ = some (.int .i64 ((rd_T63 l0_1 x17_1).f0)) := (blk_cell BK229.out 0).trans rfl; have hcz47_1 : w45.cell? ⟨gb229, 1, none⟩ = some (.int .i64 ((rd_T63 l0_1 x17_1).f1)) := (blk_cell BK229.out 1).trans rfl; have hfz47_0 := blk_frozen BK229.out 0; have hfz47_1 := blk_frozen BK229.out 1) | ((with_reducible refine gate_callee (f := 64) rfl ?_); refine goesL_ (some 39) rfl rfl Try.func64 (by kernel_rfl) rfl #[.agg #[.int .i64 a0_0, .slice (some ad228) l0_1.length c0_1], .int .i64 a1, .int .i64 ((rd_T63 l0_1 x17_1).f0)] rfl (G.ar) ?_; (with_reducible refine (impl_Net_joined.calls k1 a0_0 _ _ l0_1 a1 ((rd_T63 l0_1 x17_1).f0) false _ ?side1 ?side2 A19.out).mono ?_); (case side1 => repeat (first | exact (Kd.C_below HR0_1.out HB.out) | (with_reducible refine Kd.C_alloc ?_ _) | (with_reducible refine Kd.C_drewN ?_ _) | (with_reducible refine Kd.C_drew ?_))); (case side2 => exact HC0_1.out); rintro e w48 ⟨rfl, hb⟩; refine ⟨_, rfl, ?_⟩; have n0_ := Aside0.mk (Kd.R_below (G.cR HO_5.out) hb); have n1_ := Aside0.mk (blk_below (g := gb224) (o := .cells #[.int .i64 a0_0, .slice (some ad228) l0_1.length c0_1] 29 (0, 0)) (G.cb BK224.out) hb); have n2_ := Aside0.mk (blk_below (g := gb229) (o := .cells #[.int .i64 ((rd_T63 l0_1 x17_1).f0), .int .i64 ((rd_T63 l0_1 x17_1).f1)] 63 (0, 0)) (G.cb BK229.out) hb); have n3_ := Aside0.mk (below_step (G.cB HB.out) hb); clear HO_5 BK224 BK229 HB; revert n0_ n1_ n2_ n3_; intro HO_5 BK224 BK229 HB; (try clear hb); (try clear hb2); (try clear hk); (try clear hi)))
             go_ret
             exact ⟨c16_8, G.cB HB.out⟩
           ·rw [if_neg c17] at H
            exact absurd H (by simp)
          ·rw [if_neg c16] at H
           exact absurd H (by simp)
         ·rw [if_neg c14] at H
          exact absurd H (by simp)
        ·rw [if_neg c13] at H
         exact absurd H (by simp)
       ·rw [if_neg c12] at H
        exact absurd H (by simp)
      ·rw [if_neg c11] at H
       exact absurd H (by simp)
     ·rw [if_neg c10] at H
      have c10b0 : decide (x17_1 < (l0_1.length : Int)) = false := decide_eq_false c10
      clear c10
      have H' := Aside0.mk H
      clear H
      obtain ⟨Ao49, co49, eo49⟩ := Kd.R_slice HO_5.out
      subst eo49
      go_wp2
      go_loopg [8, 44] k1 (fun kq v8 v44 w' => ∃ (x8_2 : Int) (x44_2 : Int), v8 = .int .i64 x8_2 ∧ v44 = .int .i64 x44_2 ∧ Aside0 (impl_Net_trail.l1 kq a1 x5_1 x8_2 x5_1 (x5_1.length : Int) x44_2 = some r) ∧ Aside0 (kq ≤ k1) ∧ Aside0 (Kd.R (Kd.int .i64) 3 w' w.heap.size (fun _ => True) (.slice Ao49 x5_1.length co49) x5_1) ∧ Aside0 (Kd.R (Kd.int .i64) 3 w' w.heap.size (fun _ => True) (.slice Ao49 x5_1.length co49) x5_1) ∧ Aside0 (w'.heap[gb224]? = some (.cells #[.int .i64 a0_0, (.slice A0_1 l0_1.length c0_1)] 29 (0, 0))) ∧ Aside0 (Below w.heap.size w w'))
      case atStart => exact ⟨(0), (0), (c16_9), (c16_9), H', ⟨Nat.le_refl _⟩, ⟨G.cR HO_5.out⟩, ⟨G.cR HO_5.out⟩, ⟨G.cb BK224.out⟩, ⟨G.cB HB.out⟩⟩
      case round =>
       clear H'
       (try clear c1); (try clear p1); (try clear q1); (try clear hx1); (try clear c2); (try clear p2); (try clear q2); (try clear hx2); (try clear c3); (try clear c3b0); (try clear c3b1); (try clear c4); (try clear c4b0); (try clear c4b1); (try clear c6); (try clear p6); (try clear c10); (try clear c10b0); (try clear c11); (try clear c11b0); (try clear c12); (try clear c12b0); (try clear c13); (try clear c13b0); (try clear c14); (try clear c14b0); (try clear p15); (try clear q15); (try clear hx15); (try clear hf15); (try clear c16); (try clear c16b0); (try clear c17); (try clear c17b0); (try clear p18); (try clear q18); (try clear hx18); (try clear hf18); (try clear c20); (try clear c22); (try clear p22); (try clear q22); (try clear hx22); (try clear p23); (try clear q23); (try clear hx23); (try clear c36); (try clear c44); (try clear hcz23_0); (try clear hcz23_1); (try clear hcz25_0); (try clear hcz25_1); (try clear hcz29_0); (try clear hcz29_1); (try clear hcz32_0); (try clear hcz32_1); (try clear hcz33_0); (try clear hcz33_1); (try clear hcz37_0); (try clear hcz37_1); (try clear hcz39_0); (try clear hcz39_1); (try clear hcz43_0); (try clear hcz43_1); (try clear hcz46_0); (try clear hcz46_1); (try clear hcz47_0); (try clear hcz47_1); (try clear hcz6_0); (try clear hcz6_1); (try clear hcz9_0); (try clear hcz9_1); (try clear hfz23_0); (try clear hfz23_1); (try clear hfz25_0); (try clear hfz25_1); (try clear hfz29_0); (try clear hfz29_1); (try clear hfz32_0); (try clear hfz32_1); (try clear hfz33_0); (try clear hfz33_1); (try clear hfz37_0); (try clear hfz37_1); (try clear hfz39_0); (try clear hfz39_1); (try clear hfz43_0); (try clear hfz43_1); (try clear hfz46_0); (try clear hfz46_1); (try clear hfz47_0); (try clear hfz47_1); (try clear hfz6_0); (try clear hfz6_1); (try clear hfz9_0); (try clear hfz9_1); (try clear hx15_0); (try clear hx18_0); (try clear hx228_0); (try clear hx228_1); (try clear hx230_0); (try clear hx232_0); (try clear p15); (try clear p18); (try clear p2); (try clear p228); (try clear p230); (try clear p232); (try clear q15); (try clear q18); (try clear q228); (try clear q230); (try clear q232)
       obtain ⟨x8_2, x44_2, rfl, rfl, HA, HK2, HO_5, HO_42, BK224, HB⟩ := hrel
       cases gk with
       | zero => exact absurd HA.out (by simp [impl_Net_trail.l1])
       | succ k2 =>
        have H := HA.out
        clear HA
        simp only [impl_Net_trail.l1] at H
        by_cases c50 : x44_2 < (x5_1.length : Int)
        ·rw [if_pos c50] at H
         have c50b0 : decide (x44_2 < (x5_1.length : Int)) = true := decide_eq_true c50
         clear c50
         by_cases c51 : 0 ≤ x44_2
         ·rw [if_pos c51] at H
          have c51b0 : decide (0 ≤ x44_2) = true := decide_eq_true c51
          clear c51
          by_cases c52 : x44_2 < (x5_1.length : Int)
          ·rw [if_pos c52] at H
           have c52b0 : decide (x44_2 < (x5_1.length : Int)) = true := decide_eq_true c52
           clear c52
           have H' := Aside0.mk H
           clear H
           have p235 : 0 ≤ (x44_2 : Int) := of_decide_eq_true (G.asm)
           have q235 : x44_2 < (x5_1.length : Int) := of_decide_eq_true (G.asm)
           obtain ⟨ad235, e235, hx235_0⟩ := Kd.at_int (Kd.R_reads' HO_42.out).2.2 x44_2 p235 q235
           cases e235
           replace p235 := eq_true p235
           replace q235 := eq_true q235
           go_wp2
           go_roundg k2
           case measure => have := HK1.out; have := HK2.out; omega
           case rel => exact ⟨(wrap64 (x8_2 + (Int.tmod (rd x5_1 x44_2) 2))), (wrap64 (x44_2 + 1)), (c16_9), (c16_9), H', ⟨by have := HK1.out; have := HK2.out; omega⟩, ⟨G.cR HO_5.out⟩, ⟨G.cR HO_42.out⟩, ⟨G.cb BK224.out⟩, ⟨G.cB HB.out⟩⟩
          ·rw [if_neg c52] at H
           exact absurd H (by simp)
         ·rw [if_neg c51] at H
          exact absurd H (by simp)
        ·rw [if_neg c50] at H
         have c50b0 : decide (x44_2 < (x5_1.length : Int)) = false := decide_eq_false c50
         clear c50
         by_cases c53 : x8_2 = 0
         ·rw [if_pos c53] at H
          have c53b0 : (x8_2 == 0) = true := beq_iff_eq.mpr c53
          have c53b1 : (x8_2 != 0) = false := bne_eq_false_iff_eq.mpr c53
          clear c53
          obtain rfl := Option.some.inj H
          go_wp2
          go_ret
          exact ⟨c16_8, G.cB HB.out⟩
         ·rw [if_neg c53] at H
          have c53b0 : (x8_2 == 0) = false := beq_eq_false_iff_ne.mpr c53
          have c53b1 : (x8_2 != 0) = true := bne_iff_ne.mpr c53
          by_cases c54 : x8_2 = 2
          ·rw [if_pos c54] at H
           have c54b0 : (x8_2 == 2) = true := beq_iff_eq.mpr c54
           have c54b1 : (x8_2 != 2) = false := bne_eq_false_iff_eq.mpr c54
           clear c54
           by_cases c55 : 0 ≤ a1
           ·rw [if_pos c55] at H
            have c55b0 : decide (0 ≤ a1) = true := decide_eq_true c55
            clear c55
            by_cases c56 : a1 < (x5_1.length : Int)
            ·rw [if_pos c56] at H
             have c56b0 : decide (a1 < (x5_1.length : Int)) = true := decide_eq_true c56
             clear c56
             obtain rfl := Option.some.inj H
             have p236 : 0 ≤ (a1 : Int) := of_decide_eq_true (G.asm)
             have q236 : a1 < (x5_1.length : Int) := of_decide_eq_true (G.asm)
             obtain ⟨ad236, e236, hx236_0⟩ := Kd.at_int (Kd.R_reads' HO_5.out).2.2 a1 p236 q236
             cases e236
             replace p236 := eq_true p236
             replace q236 := eq_true q236
             go_wp2
             go_ret
             exact ⟨c16_8, G.cB HB.out⟩
            ·rw [if_neg c56] at H
             exact absurd H (by simp)
           ·rw [if_neg c55] at H
            exact absurd H (by simp)
          ·rw [if_neg c54] at H
           have c54b0 : (x8_2 == 2) = false := beq_eq_false_iff_ne.mpr c54
           have c54b1 : (x8_2 != 2) = true := bne_iff_ne.mpr c54
           obtain rfl := Option.some.inj H
           go_wp2
           go_ret
           exact ⟨c16_8, G.cB HB.out⟩
  ·rw [if_neg c4] at H
   exact absurd H (by simp)
 ·rw [if_neg c3] at H
  exact absurd H (by simp)

/-! ### impl_TrailCan: function 17 -/
def impl_TrailCan.f (k : Nat) (a0_0 : Int) (l0_1 : List (S63)) (a1 : Int) : Option (Bool) := (impl_NetOk.f k a0_0 l0_1).bind fun t238 => (if t238 = true then ((impl_Net_knot.f a0_0 l0_1 a1).bind fun t239 => (if t239 = true then ((impl_Net_trail.f k a0_0 l0_1 a1).bind fun t240 => (some t240)) else (some false))) else (some false))
theorem impl_TrailCan.mono : ∀ a0 a1 a2 k, LeO (impl_TrailCan.f k a0 a1 a2) (impl_TrailCan.f (k + 1) a0 a1 a2) := by
 intro a0 a1 a2 k
 unfold impl_TrailCan.f
 repeat' first
   | (with_reducible exact impl_NetOk.mono _ _ _)
   | (with_reducible exact impl_Net_trail.mono _ _ _ _)
   | (with_reducible exact LeO.refl _)
   | (with_reducible exact LeO.none _)
   | (with_reducible refine LeO.ite ?_ ?_)
   | (with_reducible refine LeO.bind ?_ (fun _ => ?_))
   | exact impl_NetOk.mono _ _ _
   | exact impl_Net_trail.mono _ _ _ _
   | exact LeO.none _
   | refine LeO.ite ?_ ?_
   | refine LeO.bind ?_ (fun _ => ?_)
set_option maxHeartbeats 8000000 in
set_option maxRecDepth 100000 in
theorem impl_TrailCan.calls (k : Nat) (a0_0 : Int) (A0_1 : Option Addr) (c0_1 : Nat) (l0_1 : List (S63)) (a1 : Int) (r : Bool) (w : World) (hr0_1 : Kd.C k63 w A0_1 l0_1.length l0_1) (hc0_1 : l0_1.length ≤ c0_1) (h : impl_TrailCan.f k a0_0 l0_1 a1 = some r) :
  Calls Try.prog 17 #[.agg #[.int .i64 a0_0, .slice A0_1 l0_1.length c0_1], .int .i64 a1] w fun e w' => e = .returned (.bool r) ∧ Below w.heap.size w w' := by
 have hu29 := Try.underlying29
 have HR0_1 := Aside0.mk hr0_1
 have HC0_1 := Aside0.mk hc0_1
 clear hr0_1 hc0_1
 have HB := Aside0.mk (Below.refl w.heap.size w)
 have H : ((impl_NetOk.f k a0_0 l0_1).bind fun t238 => (if t238 = true then ((impl_Net_knot.f a0_0 l0_1 a1).bind fun t239 => (if t239 = true then ((impl_Net_trail.f k a0_0 l0_1 a1).bind fun t240 => (some t240)) else (some false))) else (some false))) = some r := h
 clear h
 replace H := Option.bind_eq_some_iff.mp H
 obtain ⟨t238, A30, H⟩ := H
 replace H : (if t238 = true then ((impl_Net_knot.f a0_0 l0_1 a1).bind fun t239 => (if t239 = true then ((impl_Net_trail.f k a0_0 l0_1 a1).bind fun t240 => (some t240)) else (some false))) else (some false)) = some r := H
 have A3 := Aside0.mk A30
 clear A30
 by_cases c4 : t238 = true
 ·subst c4
  have H1 : ((impl_Net_knot.f a0_0 l0_1 a1).bind fun t239 => (if t239 = true then ((impl_Net_trail.f k a0_0 l0_1 a1).bind fun t240 => (some t240)) else (some false))) = some r := by rw [if_pos rfl] at H; exact H
  clear H
  have H := H1
  clear H1
  replace H := Option.bind_eq_some_iff.mp H
  obtain ⟨t239, A50, H⟩ := H
  replace H : (if t239 = true then ((impl_Net_trail.f k a0_0 l0_1 a1).bind fun t240 => (some t240)) else (some false)) = some r := H
  have A5 := Aside0.mk A50
  clear A50
  by_cases c6 : t239 = true
  ·subst c6
   have H1 : ((impl_Net_trail.f k a0_0 l0_1 a1).bind fun t240 => (some t240)) = some r := by rw [if_pos rfl] at H; exact H
   clear H
   have H := H1
   clear H1
   replace H := Option.bind_eq_some_iff.mp H
   obtain ⟨t240, A70, H⟩ := H
   replace H : (some t240) = some r := H
   have A7 := Aside0.mk A70
   clear A70
   obtain rfl := Option.some.inj H
   go_enter Try.func17, Try.ntmps17
   go_wp2_with (first | ((with_reducible refine gate_dst (N := 2) rfl ?_); refine G.be 2 #[.int .i64 a0_0, .slice A0_1 l0_1.length c0_1] 29 ?_; intro gb237 hg w8 hbox hb; have n0_ := Aside0.mk (below_step (G.cB HB.out) hb); have n1_ := Aside0.mk (hbox); have n2_ := Aside0.mk ((c16_10 : w.heap.size ≤ gb237)); have n3_ := Aside0.mk ((c16_10 : w.heap.size ≤ gb237)); clear HB; revert n0_ n1_ n2_ n3_; intro HB BK237 GW237 GE237; clear hb hbox hg; have hcz9_0 : w8.cell? ⟨gb237, 0, none⟩ = some (.int .i64 a0_0) := (blk_cell BK237.out 0).trans rfl; have hcz9_1 : w8.cell? ⟨gb237, 1, none⟩ = some (.slice A0_1 l0_1.length c0_1) := (blk_cell BK237.out 1).trans rfl; have hfz9_0 := blk_frozen BK237.out 0; have hfz9_1 := blk_frozen BK237.out 1) | ((with_reducible refine gate_callee (f := 42) rfl ?_); refine goesL_ (some 6) rfl rfl Try.func42 (by kernel_rfl) rfl #[.agg #[.int .i64 a0_0, .slice A0_1 l0_1.length c0_1]] rfl (G.ar) ?_; (with_reducible refine (impl_NetOk.calls k a0_0 _ _ l0_1 true _ ?side1 ?side2 A3.out).mono ?_); (case side1 => repeat (first | exact (Kd.C_below HR0_1.out HB.out) | (with_reducible refine Kd.C_alloc ?_ _) | (with_reducible refine Kd.C_drewN ?_ _) | (with_reducible refine Kd.C_drew ?_))); (case side2 => exact HC0_1.out); rintro e w10 ⟨rfl, hb⟩; refine ⟨_, rfl, ?_⟩; have n0_ := Aside0.mk (blk_below (g := gb237) (o := .cells #[.int .i64 a0_0, .slice A0_1 l0_1.length c0_1] 29 (0, 0)) (G.cb BK237.out) hb); have n1_ := Aside0.mk (below_step (G.cB HB.out) hb); clear BK237 HB; revert n0_ n1_; intro BK237 HB; (try clear hb); (try clear hb2); (try clear hk); (try clear hi); have hcz11_0 : w10.cell? ⟨gb237, 0, none⟩ = some (.int .i64 a0_0) := (blk_cell BK237.out 0).trans rfl; have hcz11_1 : w10.cell? ⟨gb237, 1, none⟩ = some (.slice A0_1 l0_1.length c0_1) := (blk_cell BK237.out 1).trans rfl; have hfz11_0 := blk_frozen BK237.out 0; have hfz11_1 := blk_frozen BK237.out 1) | (go_at_call 43; (with_reducible refine (impl_Net_knot.calls a0_0 _ _ l0_1 a1 true _ ?side1 ?side2 A5.out).mono ?_); (case side1 => repeat (first | exact (Kd.C_below HR0_1.out HB.out) | (with_reducible refine Kd.C_alloc ?_ _) | (with_reducible refine Kd.C_drewN ?_ _) | (with_reducible refine Kd.C_drew ?_))); (case side2 => exact HC0_1.out); rintro e w12 ⟨rfl, hb⟩; have n0_ := Aside0.mk (blk_below (g := gb237) (o := .cells #[.int .i64 a0_0, .slice A0_1 l0_1.length c0_1] 29 (0, 0)) (G.cb BK237.out) hb); have n1_ := Aside0.mk (below_step (G.cB HB.out) hb); clear BK237 HB; revert n0_ n1_; intro BK237 HB; (try clear hb); (try clear hb2); (try clear hk); (try clear hi); have hcz13_0 : w12.cell? ⟨gb237, 0, none⟩ = some (.int .i64 a0_0) := (blk_cell BK237.out 0).trans rfl; have hcz13_1 : w12.cell? ⟨gb237, 1, none⟩ = some (.slice A0_1 l0_1.length c0_1) := (blk_cell BK237.out 1).trans rfl; have hfz13_0 := blk_frozen BK237.out 0; have hfz13_1 := blk_frozen BK237.out 1) | (go_at_call 44; (with_reducible refine (impl_Net_trail.calls k a0_0 _ _ l0_1 a1 t240 _ ?side1 ?side2 A7.out).mono ?_); (case side1 => repeat (first | exact (Kd.C_below HR0_1.out HB.out) | (with_reducible refine Kd.C_alloc ?_ _) | (with_reducible refine Kd.C_drewN ?_ _) | (with_reducible refine Kd.C_drew ?_))); (case side2 => exact HC0_1.out); rintro e w14 ⟨rfl, hb⟩; have n0_ := Aside0.mk (blk_below (g := gb237) (o := .cells #[.int .i64 a0_0, .slice A0_1 l0_1.length c0_1] 29 (0, 0)) (G.cb BK237.out) hb); have n1_ := Aside0.mk (below_step (G.cB HB.out) hb); clear BK237 HB; revert n0_ n1_; intro BK237 HB; (try clear hb); (try clear hb2); (try clear hk); (try clear hi)))
   go_ret
   exact ⟨c16_8, G.cB HB.out⟩
  ·replace c6 := Bool.eq_false_iff.mpr c6
   subst c6
   have H1 : (some false) = some r := by rw [if_neg (show ¬ (false = true) by decide)] at H; exact H
   clear H
   have H := H1
   clear H1
   obtain rfl := Option.some.inj H
   go_enter Try.func17, Try.ntmps17
   go_wp2_with (first | ((with_reducible refine gate_dst (N := 2) rfl ?_); refine G.be 2 #[.int .i64 a0_0, .slice A0_1 l0_1.length c0_1] 29 ?_; intro gb237 hg w15 hbox hb; have n0_ := Aside0.mk (below_step (G.cB HB.out) hb); have n1_ := Aside0.mk (hbox); have n2_ := Aside0.mk ((c16_10 : w.heap.size ≤ gb237)); have n3_ := Aside0.mk ((c16_10 : w.heap.size ≤ gb237)); clear HB; revert n0_ n1_ n2_ n3_; intro HB BK237 GW237 GE237; clear hb hbox hg; have hcz16_0 : w15.cell? ⟨gb237, 0, none⟩ = some (.int .i64 a0_0) := (blk_cell BK237.out 0).trans rfl; have hcz16_1 : w15.cell? ⟨gb237, 1, none⟩ = some (.slice A0_1 l0_1.length c0_1) := (blk_cell BK237.out 1).trans rfl; have hfz16_0 := blk_frozen BK237.out 0; have hfz16_1 := blk_frozen BK237.out 1) | ((with_reducible refine gate_callee (f := 42) rfl ?_); refine goesL_ (some 6) rfl rfl Try.func42 (by kernel_rfl) rfl #[.agg #[.int .i64 a0_0, .slice A0_1 l0_1.length c0_1]] rfl (G.ar) ?_; (with_reducible refine (impl_NetOk.calls k a0_0 _ _ l0_1 true _ ?side1 ?side2 A3.out).mono ?_); (case side1 => repeat (first | exact (Kd.C_below HR0_1.out HB.out) | (with_reducible refine Kd.C_alloc ?_ _) | (with_reducible refine Kd.C_drewN ?_ _) | (with_reducible refine Kd.C_drew ?_))); (case side2 => exact HC0_1.out); rintro e w17 ⟨rfl, hb⟩; refine ⟨_, rfl, ?_⟩; have n0_ := Aside0.mk (blk_below (g := gb237) (o := .cells #[.int .i64 a0_0, .slice A0_1 l0_1.length c0_1] 29 (0, 0)) (G.cb BK237.out) hb); have n1_ := Aside0.mk (below_step (G.cB HB.out) hb); clear BK237 HB; revert n0_ n1_; intro BK237 HB; (try clear hb); (try clear hb2); (try clear hk); (try clear hi); have hcz18_0 : w17.cell? ⟨gb237, 0, none⟩ = some (.int .i64 a0_0) := (blk_cell BK237.out 0).trans rfl; have hcz18_1 : w17.cell? ⟨gb237, 1, none⟩ = some (.slice A0_1 l0_1.length c0_1) := (blk_cell BK237.out 1).trans rfl; have hfz18_0 := blk_frozen BK237.out 0; have hfz18_1 := blk_frozen BK237.out 1) | (go_at_call 43; (with_reducible refine (impl_Net_knot.calls a0_0 _ _ l0_1 a1 false _ ?side1 ?side2 A5.out).mono ?_); (case side1 => repeat (first | exact (Kd.C_below HR0_1.out HB.out) | (with_reducible refine Kd.C_alloc ?_ _) | (with_reducible refine Kd.C_drewN ?_ _) | (with_reducible refine Kd.C_drew ?_))); (case side2 => exact HC0_1.out); rintro e w19 ⟨rfl, hb⟩; have n0_ := Aside0.mk (blk_below (g := gb237) (o := .cells #[.int .i64 a0_0, .slice A0_1 l0_1.length c0_1] 29 (0, 0)) (G.cb BK237.out) hb); have n1_ := Aside0.mk (below_step (G.cB HB.out) hb); clear BK237 HB; revert n0_ n1_; intro BK237 HB; (try clear hb); (try clear hb2); (try clear hk); (try clear hi)))
   go_ret
   exact ⟨c16_8, G.cB HB.out⟩
 ·replace c4 := Bool.eq_false_iff.mpr c4
  subst c4
  have H1 : (some false) = some r := by rw [if_neg (show ¬ (false = true) by decide)] at H; exact H
  clear H
  have H := H1
  clear H1
  obtain rfl := Option.some.inj H
  go_enter Try.func17, Try.ntmps17
  go_wp2_with (first | ((with_reducible refine gate_dst (N := 2) rfl ?_); refine G.be 2 #[.int .i64 a0_0, .slice A0_1 l0_1.length c0_1] 29 ?_; intro gb237 hg w20 hbox hb; have n0_ := Aside0.mk (below_step (G.cB HB.out) hb); have n1_ := Aside0.mk (hbox); have n2_ := Aside0.mk ((c16_10 : w.heap.size ≤ gb237)); have n3_ := Aside0.mk ((c16_10 : w.heap.size ≤ gb237)); clear HB; revert n0_ n1_ n2_ n3_; intro HB BK237 GW237 GE237; clear hb hbox hg; have hcz21_0 : w20.cell? ⟨gb237, 0, none⟩ = some (.int .i64 a0_0) := (blk_cell BK237.out 0).trans rfl; have hcz21_1 : w20.cell? ⟨gb237, 1, none⟩ = some (.slice A0_1 l0_1.length c0_1) := (blk_cell BK237.out 1).trans rfl; have hfz21_0 := blk_frozen BK237.out 0; have hfz21_1 := blk_frozen BK237.out 1) | ((with_reducible refine gate_callee (f := 42) rfl ?_); refine goesL_ (some 6) rfl rfl Try.func42 (by kernel_rfl) rfl #[.agg #[.int .i64 a0_0, .slice A0_1 l0_1.length c0_1]] rfl (G.ar) ?_; (with_reducible refine (impl_NetOk.calls k a0_0 _ _ l0_1 false _ ?side1 ?side2 A3.out).mono ?_); (case side1 => repeat (first | exact (Kd.C_below HR0_1.out HB.out) | (with_reducible refine Kd.C_alloc ?_ _) | (with_reducible refine Kd.C_drewN ?_ _) | (with_reducible refine Kd.C_drew ?_))); (case side2 => exact HC0_1.out); rintro e w22 ⟨rfl, hb⟩; refine ⟨_, rfl, ?_⟩; have n0_ := Aside0.mk (blk_below (g := gb237) (o := .cells #[.int .i64 a0_0, .slice A0_1 l0_1.length c0_1] 29 (0, 0)) (G.cb BK237.out) hb); have n1_ := Aside0.mk (below_step (G.cB HB.out) hb); clear BK237 HB; revert n0_ n1_; intro BK237 HB; (try clear hb); (try clear hb2); (try clear hk); (try clear hi)))
  go_ret
  exact ⟨c16_8, G.cB HB.out⟩

end Go.Proofs.Ytbkdpnfjcnkoeaa.P
