-- Printed by a program of this session (mp.py, over the kit's print). Not trusted: Lean checks it.
import Derived.Test.YtbkdpnfjcnkoeaaF0
import Derived.Test.YtbkdpnfjcnkoeaaF1
namespace Go.Proofs.Ytbkdpnfjcnkoeaa.P
open Go.RowKit Go.Proofs.YtbkdpnfjcnkoeaaW.PrintWords Go.Proofs.YtbkdpnfjcnkoeaaW.PrintLast Go.Proofs.YtbkdpnfjcnkoeaaW.PrintMore
attribute [local go_sem] max2_int min2_int max_two min_two max_three min_three max_four min_four   -- for this text's walks alone
set_option linter.unusedVariables false
set_option linter.unusedSimpArgs false

theorem c7_0 {p : Prop} (h : p := by (with_reducible repeat (first | refine blk_drewN ?_ _ | refine blk_drew ?_ | refine blk_alloc ?_ _)); refine blk_put (cs := #[.int .i64 ((rd_T63 l0_1 x15_1).f0), .int .i64 0]) ?_ 1 _ rfl; (with_reducible repeat (first | refine blk_drewN ?_ _ | refine blk_drew ?_ | refine blk_alloc ?_ _)); refine blk_put (cs := #[.int .i64 0, .int .i64 0]) ?_ 0 _ rfl; (with_reducible repeat (first | refine blk_drewN ?_ _ | refine blk_drew ?_ | refine blk_alloc ?_ _)); exact BK332.out) : p := h
theorem c7_1 {p : Prop} (h : p := by (with_reducible repeat (first | refine blk_drewN ?_ _ | refine blk_drew ?_ | refine blk_alloc ?_ _)); refine blk_far ?_ NB325_332.out _; (with_reducible repeat (first | refine blk_drewN ?_ _ | refine blk_drew ?_ | refine blk_alloc ?_ _)); refine blk_far ?_ NB325_332.out _; (with_reducible repeat (first | refine blk_drewN ?_ _ | refine blk_drew ?_ | refine blk_alloc ?_ _)); exact BK325.out) : p := h
theorem c7_2 {p : Prop} (h : p := by (with_reducible repeat (first | refine blk_drewN ?_ _ | refine blk_drew ?_ | refine blk_alloc ?_ _)); refine blk_far ?_ NB326_332.out _; (with_reducible repeat (first | refine blk_drewN ?_ _ | refine blk_drew ?_ | refine blk_alloc ?_ _)); refine blk_far ?_ NB326_332.out _; (with_reducible repeat (first | refine blk_drewN ?_ _ | refine blk_drew ?_ | refine blk_alloc ?_ _)); exact BK326.out) : p := h
theorem c7_3 {p : Prop} (h : p := by (with_reducible repeat (first | refine blk_drewN ?_ _ | refine blk_drew ?_ | refine blk_alloc ?_ _)); refine blk_far ?_ NB330_332.out _; (with_reducible repeat (first | refine blk_drewN ?_ _ | refine blk_drew ?_ | refine blk_alloc ?_ _)); refine blk_far ?_ NB330_332.out _; (with_reducible repeat (first | refine blk_drewN ?_ _ | refine blk_drew ?_ | refine blk_alloc ?_ _)); exact BK330.out) : p := h
theorem c7_4 {p : Prop} (h : p := by (with_reducible repeat (first | apply Kd.R_alloc | apply Kd.R_drewN | apply Kd.R_drew)); exact (Kd.R_mono (Kd.R_far (p := ⟨gb332, 1, none⟩) (Kd.R_far (p := ⟨gb332, 0, none⟩) (Kd.R_mono HO_331001.out (fun k_ hk => (⟨hk, hk.2⟩ : _ ∧ k_ ≠ gb332))) (fun _ hk => hk.2) (.int .i64 ((rd_T63 l0_1 x15_1).f0))) (fun _ hk => hk.2) (.int .i64 ((rd_T63 l0_1 x15_1).f1))) (fun _ h_ => h_.1))) : p := h
theorem c7_5 {p : Prop} (h : p := by rw [hg]; exact Nat.ne_of_lt (blk_lt (g := gb325) (o := .cells #[.int .i64 a0_0, .slice (some ad331) l0_1.length c0_1] 29 (0, 0)) (G.cb BK325.out))) : p := h
theorem c7_6 {p : Prop} (h : p := by rw [hg]; exact Nat.ne_of_gt (blk_lt (g := gb325) (o := .cells #[.int .i64 a0_0, .slice (some ad331) l0_1.length c0_1] 29 (0, 0)) (G.cb BK325.out))) : p := h
theorem c7_7 {p : Prop} (h : p := by rw [hg]; exact Nat.ne_of_lt (blk_lt (g := gb325) (o := .cells #[.int .i64 a0_0, .slice A0_1 l0_1.length c0_1] 29 (0, 0)) (G.cb BK325.out))) : p := h
theorem c7_8 {p : Prop} (h : p := by rw [hg]; exact Nat.ne_of_gt (blk_lt (g := gb325) (o := .cells #[.int .i64 a0_0, .slice A0_1 l0_1.length c0_1] 29 (0, 0)) (G.cb BK325.out))) : p := h
theorem c7_9 {p : Prop} (h : p := by rw [hg]; exact Nat.ne_of_lt (blk_lt (g := gb326) (o := .cells #[.int .i64 0, .slice none 0 0] 29 (0, 0)) (G.cb BK326.out))) : p := h
theorem c7_10 {p : Prop} (h : p := by rw [hg]; exact Nat.ne_of_gt (blk_lt (g := gb326) (o := .cells #[.int .i64 0, .slice none 0 0] 29 (0, 0)) (G.cb BK326.out))) : p := h
theorem c7_11 {p : Prop} (h : p := by first | rfl | (simp [errW_none, errW_some] <;> rfl) | (simp [*, errW_none, errW_some] <;> rfl)) : p := h
theorem c7_12 {p : Prop} (h : p := by first | rfl | (simp; done) | (simp [*]; done)) : p := h
theorem c7_13 {p : Prop} (h : p := by rw [hg]; exact (below_size (G.cB HB.out))) : p := h
attribute [local go_sem high] eqA63
/-! ### impl_tie: function 51 -/
def impl_tie.f (a0 : Int) (a1 : Int) : Option (Int × Int) := some (mn a0 a1, mx a0 a1)
set_option maxHeartbeats 8000000 in
set_option maxRecDepth 100000 in
theorem impl_tie.calls (a0 : Int) (a1 : Int) (r1 : Int) (r2 : Int) (w : World) (h : impl_tie.f a0 a1 = some (r1, r2)) :
  Calls Try.prog 51 #[.int .i64 a0, .int .i64 a1] w fun e w' => e = .returned (.agg #[.int .i64 r1, .int .i64 r2]) ∧ Below w.heap.size w w' := by
 have hu63 := Try.underlying63
 have HB := Aside0.mk (Below.refl w.heap.size w)
 have H : (some (mn a0 a1, mx a0 a1)) = some (r1, r2) := h
 clear h
 obtain ⟨ji3, hji3⟩ : ∃ j_ : Int, (mn a0 a1) = j_ := ⟨_, rfl⟩
 replace H : (some (ji3, mx a0 a1)) = some (r1, r2) := by first | (rw [hji3] at H; exact H) | (simp only [hji3] at H ⊢; exact H)
 have hji3_ : (if a1 < a0 then a1 else a0) = ji3 := hji3
 obtain ⟨ji4, hji4⟩ : ∃ j_ : Int, (mx a0 a1) = j_ := ⟨_, rfl⟩
 replace H : (some (ji3, ji4)) = some (r1, r2) := by first | (rw [hji4] at H; exact H) | (simp only [hji4] at H ⊢; exact H)
 have hji4_ : (if a0 < a1 then a1 else a0) = ji4 := hji4
 simp only [Option.some.injEq, Prod.mk.injEq] at H
 obtain ⟨rfl, rfl⟩ := H
 go_enter Try.func51, Try.ntmps51
 go_wp2_with (first | ((with_reducible refine gate_dst (N := 4) rfl ?_); refine G.be 4 #[.int .i64 0, .int .i64 0] 63 ?_; intro gb311 hg w5 hbox hb; have n0_ := Aside0.mk (below_step (G.cB HB.out) hb); have n1_ := Aside0.mk (hbox); have n2_ := Aside0.mk ((c7_13 : w.heap.size ≤ gb311)); have n3_ := Aside0.mk ((c7_13 : w.heap.size ≤ gb311)); clear HB; revert n0_ n1_ n2_ n3_; intro HB BK311 GW311 GE311; clear hb hbox hg; have hcz6_0 : w5.cell? ⟨gb311, 0, none⟩ = some (.int .i64 0) := (blk_cell BK311.out 0).trans rfl; have hcz6_1 : w5.cell? ⟨gb311, 1, none⟩ = some (.int .i64 0) := (blk_cell BK311.out 1).trans rfl; have hfz6_0 := blk_frozen BK311.out 0; have hfz6_1 := blk_frozen BK311.out 1))
 refine bodyPost_ret (results_cell_row rfl _ _ gb311 63 #[.int .i64 ji3, .int .i64 ji4] (0, 0) _ rfl (by (with_reducible repeat (first | refine blk_drewN ?_ _ | refine blk_drew ?_ | refine blk_alloc ?_ _)); refine blk_put (cs := #[.int .i64 ji3, .int .i64 0]) ?_ 1 _ rfl; (with_reducible repeat (first | refine blk_drewN ?_ _ | refine blk_drew ?_ | refine blk_alloc ?_ _)); refine blk_put (cs := #[.int .i64 0, .int .i64 0]) ?_ 0 _ rfl; (with_reducible repeat (first | refine blk_drewN ?_ _ | refine blk_drew ?_ | refine blk_alloc ?_ _)); exact BK311.out) Try.underlying63 rfl (by kernel_rfl)) rfl ?_
 exact ⟨by first | rfl | (simp [errW_none, errW_some] <;> rfl) | (simp only [← hji3, ← hji4]; first | rfl | (simp [errW_none, errW_some] <;> rfl)) | (simp [*, errW_none, errW_some] <;> rfl), G.cB HB.out⟩

/-! ### slices_Index_impl_Tie_impl_Tie: function 76 -/
def slices_Index_impl_Tie_impl_Tie.l0 : Nat → List (S63) → Int → Int → Int → Int → Option (Int)
 | 0, _, _, _, _, _ => none
 | k + 1, x0, x7, x8, x313000, x313001 => if x8 < x7 then (if 0 ≤ x8 then (if x8 < (x0.length : Int) then (if (x313000 == ((rd_T63 x0 x8).f0) && (x313001 == ((rd_T63 x0 x8).f1))) = true then (some x8) else (slices_Index_impl_Tie_impl_Tie.l0 k x0 x7 (wrap64 (x8 + 1)) x313000 x313001)) else (none)) else (none)) else (some (-1))
def slices_Index_impl_Tie_impl_Tie.f (k : Nat) (l0 : List (S63)) (a1_0 : Int) (a1_1 : Int) : Option (Int) := slices_Index_impl_Tie_impl_Tie.l0 k l0 (l0.length : Int) 0 a1_0 a1_1
theorem slices_Index_impl_Tie_impl_Tie.mono_l : ∀ k, (∀ y0 y1 y2 y3 y4, LeO (slices_Index_impl_Tie_impl_Tie.l0 k y0 y1 y2 y3 y4) (slices_Index_impl_Tie_impl_Tie.l0 (k + 1) y0 y1 y2 y3 y4))
 | 0 => fun _ _ _ _ _ r h => by simp [slices_Index_impl_Tie_impl_Tie.l0] at h
 | k + 1 => by
  have ih0 := slices_Index_impl_Tie_impl_Tie.mono_l k
  ·intro y0 y1 y2 y3 y4
   unfold slices_Index_impl_Tie_impl_Tie.l0
   repeat' first
   | (with_reducible exact ih0 _ _ _ _ _)
   | (with_reducible exact LeO.refl _)
   | (with_reducible exact LeO.none _)
   | (with_reducible refine LeO.ite ?_ ?_)
   | (with_reducible refine LeO.bind ?_ (fun _ => ?_))
   | exact ih0 _ _ _ _ _
   | exact LeO.none _
   | refine LeO.ite ?_ ?_
   | refine LeO.bind ?_ (fun _ => ?_)
theorem slices_Index_impl_Tie_impl_Tie.mono : ∀ a0 a1 a2 k, LeO (slices_Index_impl_Tie_impl_Tie.f k a0 a1 a2) (slices_Index_impl_Tie_impl_Tie.f (k + 1) a0 a1 a2) := by
 intro a0 a1 a2 k
 have ih0 := slices_Index_impl_Tie_impl_Tie.mono_l k
 unfold slices_Index_impl_Tie_impl_Tie.f
 repeat' first
   | (with_reducible exact ih0 _ _ _ _ _)
   | (with_reducible exact LeO.refl _)
   | (with_reducible exact LeO.none _)
   | (with_reducible refine LeO.ite ?_ ?_)
   | (with_reducible refine LeO.bind ?_ (fun _ => ?_))
   | exact ih0 _ _ _ _ _
   | exact LeO.none _
   | refine LeO.ite ?_ ?_
   | refine LeO.bind ?_ (fun _ => ?_)
set_option maxHeartbeats 8000000 in
set_option maxRecDepth 100000 in
theorem slices_Index_impl_Tie_impl_Tie.calls (k : Nat) (A0 : Option Addr) (c0 : Nat) (l0 : List (S63)) (a1_0 : Int) (a1_1 : Int) (r : Int) (w : World) (hr0 : Kd.C k63 w A0 l0.length l0) (hc0 : l0.length ≤ c0) (h : slices_Index_impl_Tie_impl_Tie.f k l0 a1_0 a1_1 = some r) :
  Calls Try.prog 76 #[.slice A0 l0.length c0, .agg #[.int .i64 a1_0, .int .i64 a1_1]] w fun e w' => e = .returned (.int .i64 r) ∧ Below w.heap.size w w' := by
 have hu63 := Try.underlying63
 have HR0 := Aside0.mk hr0
 have HC0 := Aside0.mk hc0
 clear hr0 hc0
 have HB := Aside0.mk (Below.refl w.heap.size w)
 have H : (slices_Index_impl_Tie_impl_Tie.l0 k l0 (l0.length : Int) 0 a1_0 a1_1) = some r := h
 clear h
 have H' := Aside0.mk H
 clear H
 go_enter Try.func76, Try.ntmps76
 go_wp2_with (first | ((with_reducible refine gate_dst (N := 3) rfl ?_); refine G.be 3 #[.int .i64 a1_0, .int .i64 a1_1] 63 ?_; intro gb312 hg w3 hbox hb; have n0_ := Aside0.mk (below_step (G.cB HB.out) hb); have n1_ := Aside0.mk (hbox); have n2_ := Aside0.mk ((c7_13 : w.heap.size ≤ gb312)); have n3_ := Aside0.mk ((c7_13 : w.heap.size ≤ gb312)); clear HB; revert n0_ n1_ n2_ n3_; intro HB BK312 GW312 GE312; clear hb hbox hg))
 repeat (go_quiet (first | ((with_reducible refine gate_dst (N := 3) rfl ?_); refine G.be 3 #[.int .i64 a1_0, .int .i64 a1_1] 63 ?_; intro gb312 hg w3 hbox hb; have n0_ := Aside0.mk (below_step (G.cB HB.out) hb); have n1_ := Aside0.mk (hbox); have n2_ := Aside0.mk ((c7_13 : w.heap.size ≤ gb312)); have n3_ := Aside0.mk ((c7_13 : w.heap.size ≤ gb312)); clear HB; revert n0_ n1_ n2_ n3_; intro HB BK312 GW312 GE312; clear hb hbox hg)); try go_wp2_with (first | ((with_reducible refine gate_dst (N := 3) rfl ?_); refine G.be 3 #[.int .i64 a1_0, .int .i64 a1_1] 63 ?_; intro gb312 hg w3 hbox hb; have n0_ := Aside0.mk (below_step (G.cB HB.out) hb); have n1_ := Aside0.mk (hbox); have n2_ := Aside0.mk ((c7_13 : w.heap.size ≤ gb312)); have n3_ := Aside0.mk ((c7_13 : w.heap.size ≤ gb312)); clear HB; revert n0_ n1_ n2_ n3_; intro HB BK312 GW312 GE312; clear hb hbox hg)))
 go_loopg [8] k (fun kq v8 w' => ∃ (x8_1 : Int), v8 = .int .i64 x8_1 ∧ Aside0 (slices_Index_impl_Tie_impl_Tie.l0 kq l0 (l0.length : Int) x8_1 a1_0 a1_1 = some r) ∧ Aside0 (kq ≤ k) ∧ Aside0 (w'.heap[gb312]? = some (.cells #[.int .i64 a1_0, .int .i64 a1_1] 63 (0, 0))) ∧ Aside0 (Below w.heap.size w w'))
 case atStart => exact ⟨(0), (c7_12), H', ⟨Nat.le_refl _⟩, ⟨G.cb BK312.out⟩, ⟨G.cB HB.out⟩⟩
 case round =>
  clear H'
  try clear p2
  obtain ⟨x8_1, rfl, HA, HK1, BK312, HB⟩ := hrel
  cases gk with
  | zero => exact absurd HA.out (by simp [slices_Index_impl_Tie_impl_Tie.l0])
  | succ k1 =>
   have H := HA.out
   clear HA
   simp only [slices_Index_impl_Tie_impl_Tie.l0] at H
   by_cases c4 : x8_1 < (l0.length : Int)
   ·rw [if_pos c4] at H
    have c4b0 : decide (x8_1 < (l0.length : Int)) = true := decide_eq_true c4
    clear c4
    by_cases c5 : 0 ≤ x8_1
    ·rw [if_pos c5] at H
     have c5b0 : decide (0 ≤ x8_1) = true := decide_eq_true c5
     clear c5
     by_cases c6 : x8_1 < (l0.length : Int)
     ·rw [if_pos c6] at H
      have c6b0 : decide (x8_1 < (l0.length : Int)) = true := decide_eq_true c6
      clear c6
      by_cases c7 : (a1_0 == ((rd_T63 l0 x8_1).f0) && (a1_1 == ((rd_T63 l0 x8_1).f1))) = true
      ·rw [if_pos c7] at H
       have c7b0 : (a1_0 == ((rd_T63 l0 x8_1).f0) && (a1_1 == ((rd_T63 l0 x8_1).f1))) = true := c7
       (try (have c7b1 : decide (a1_0 = ((rd_T63 l0 x8_1).f0) && (a1_1 == ((rd_T63 l0 x8_1).f1))) = true := by simpa using c7))
       (try (have c7b2 : (a1_0 == ((rd_T63 l0 x8_1).f0) && (a1_1 == ((rd_T63 l0 x8_1).f1))) = true := by simpa using c7))
       clear c7
       obtain rfl := Option.some.inj H
       have hcz8_0 : wr.cell? ⟨gb312, 0, none⟩ = some (.int .i64 a1_0) := (blk_cell BK312.out 0).trans rfl
       have hcz8_1 : wr.cell? ⟨gb312, 1, none⟩ = some (.int .i64 a1_1) := (blk_cell BK312.out 1).trans rfl
       have hfz8_0 := blk_frozen BK312.out 0
       have hfz8_1 := blk_frozen BK312.out 1
       have p313 : 0 ≤ (x8_1 : Int) := of_decide_eq_true (G.asm)
       have q313 : x8_1 < (l0.length : Int) := of_decide_eq_true (G.asm)
       obtain ⟨ad313, e313, hx313_0, hx313_1⟩ := at_T63 HR0.out x8_1 p313 q313
       cases e313
       replace hx313_0 := (HB.out.cell (World.block_lt_of_cell? w _ hx313_0)).trans hx313_0
       replace hx313_1 := (HB.out.cell (World.block_lt_of_cell? w _ hx313_1)).trans hx313_1
       replace p313 := eq_true p313
       replace q313 := eq_true q313
       go_wp2
       repeat (go_quiet (fail); try go_wp2)
       go_ret
       exact ⟨c7_11, G.cB HB.out⟩
      ·rw [if_neg c7] at H
       have c7b0 : (a1_0 == ((rd_T63 l0 x8_1).f0) && (a1_1 == ((rd_T63 l0 x8_1).f1))) = false := by simpa using c7
       (try (have c7b1 : decide (a1_0 = ((rd_T63 l0 x8_1).f0) && (a1_1 == ((rd_T63 l0 x8_1).f1))) = false := by simpa using c7))
       (try (have c7b2 : (a1_0 == ((rd_T63 l0 x8_1).f0) && (a1_1 == ((rd_T63 l0 x8_1).f1))) = false := by simpa using c7))
       (try (have c7b3 : ¬ (a1_0 = ((rd_T63 l0 x8_1).f0) && (a1_1 == ((rd_T63 l0 x8_1).f1))) := by simpa using c7))
       clear c7
       have H' := Aside0.mk H
       clear H
       have hcz9_0 : wr.cell? ⟨gb312, 0, none⟩ = some (.int .i64 a1_0) := (blk_cell BK312.out 0).trans rfl
       have hcz9_1 : wr.cell? ⟨gb312, 1, none⟩ = some (.int .i64 a1_1) := (blk_cell BK312.out 1).trans rfl
       have hfz9_0 := blk_frozen BK312.out 0
       have hfz9_1 := blk_frozen BK312.out 1
       have p313 : 0 ≤ (x8_1 : Int) := of_decide_eq_true (G.asm)
       have q313 : x8_1 < (l0.length : Int) := of_decide_eq_true (G.asm)
       obtain ⟨ad313, e313, hx313_0, hx313_1⟩ := at_T63 HR0.out x8_1 p313 q313
       cases e313
       replace hx313_0 := (HB.out.cell (World.block_lt_of_cell? w _ hx313_0)).trans hx313_0
       replace hx313_1 := (HB.out.cell (World.block_lt_of_cell? w _ hx313_1)).trans hx313_1
       replace p313 := eq_true p313
       replace q313 := eq_true q313
       go_wp2
       repeat (go_quiet (fail); try go_wp2)
       go_roundg k1
       case measure => have := HK1.out; omega
       case rel => exact ⟨(wrap64 (x8_1 + 1)), (c7_12), H', ⟨by have := HK1.out; omega⟩, ⟨G.cb BK312.out⟩, ⟨G.cB HB.out⟩⟩
     ·rw [if_neg c6] at H
      exact absurd H (by simp)
    ·rw [if_neg c5] at H
     exact absurd H (by simp)
   ·rw [if_neg c4] at H
    have c4b0 : decide (x8_1 < (l0.length : Int)) = false := decide_eq_false c4
    clear c4
    obtain rfl := Option.some.inj H
    go_wp2
    repeat (go_quiet (fail); try go_wp2)
    go_ret
    exact ⟨c7_11, G.cB HB.out⟩

/-! ### slices_Contains_impl_Tie_impl_Tie: function 69 -/
def slices_Contains_impl_Tie_impl_Tie.f (k : Nat) (l0 : List (S63)) (a1_0 : Int) (a1_1 : Int) : Option (Bool) := (slices_Index_impl_Tie_impl_Tie.f k l0 a1_0 a1_1).bind fun t315 => (some (decide (t315 ≥ 0)))
theorem slices_Contains_impl_Tie_impl_Tie.mono : ∀ a0 a1 a2 k, LeO (slices_Contains_impl_Tie_impl_Tie.f k a0 a1 a2) (slices_Contains_impl_Tie_impl_Tie.f (k + 1) a0 a1 a2) := by
 intro a0 a1 a2 k
 unfold slices_Contains_impl_Tie_impl_Tie.f
 repeat' first
   | (with_reducible exact slices_Index_impl_Tie_impl_Tie.mono _ _ _ _)
   | (with_reducible exact LeO.refl _)
   | (with_reducible exact LeO.none _)
   | (with_reducible refine LeO.ite ?_ ?_)
   | (with_reducible refine LeO.bind ?_ (fun _ => ?_))
   | exact slices_Index_impl_Tie_impl_Tie.mono _ _ _ _
   | exact LeO.none _
   | refine LeO.ite ?_ ?_
   | refine LeO.bind ?_ (fun _ => ?_)
set_option maxHeartbeats 8000000 in
set_option maxRecDepth 100000 in
theorem slices_Contains_impl_Tie_impl_Tie.calls (k : Nat) (A0 : Option Addr) (c0 : Nat) (l0 : List (S63)) (a1_0 : Int) (a1_1 : Int) (r : Bool) (w : World) (hr0 : Kd.C k63 w A0 l0.length l0) (hc0 : l0.length ≤ c0) (h : slices_Contains_impl_Tie_impl_Tie.f k l0 a1_0 a1_1 = some r) :
  Calls Try.prog 69 #[.slice A0 l0.length c0, .agg #[.int .i64 a1_0, .int .i64 a1_1]] w fun e w' => e = .returned (.bool r) ∧ Below w.heap.size w w' := by
 have hu63 := Try.underlying63
 have HR0 := Aside0.mk hr0
 have HC0 := Aside0.mk hc0
 clear hr0 hc0
 have HB := Aside0.mk (Below.refl w.heap.size w)
 have H : ((slices_Index_impl_Tie_impl_Tie.f k l0 a1_0 a1_1).bind fun t315 => (some (decide (t315 ≥ 0)))) = some r := h
 clear h
 replace H := Option.bind_eq_some_iff.mp H
 obtain ⟨t315, A30, H⟩ := H
 replace H : (some (decide (t315 ≥ 0))) = some r := H
 have A3 := Aside0.mk A30
 clear A30
 obtain rfl := Option.some.inj H
 go_enter Try.func69, Try.ntmps69
 go_wp2_with (first | ((with_reducible refine gate_dst (N := 3) rfl ?_); refine G.be 3 #[.int .i64 a1_0, .int .i64 a1_1] 63 ?_; intro gb314 hg w4 hbox hb; have n0_ := Aside0.mk (below_step (G.cB HB.out) hb); have n1_ := Aside0.mk (hbox); have n2_ := Aside0.mk ((c7_13 : w.heap.size ≤ gb314)); have n3_ := Aside0.mk ((c7_13 : w.heap.size ≤ gb314)); clear HB; revert n0_ n1_ n2_ n3_; intro HB BK314 GW314 GE314; clear hb hbox hg; have hcz5_0 : w4.cell? ⟨gb314, 0, none⟩ = some (.int .i64 a1_0) := (blk_cell BK314.out 0).trans rfl; have hcz5_1 : w4.cell? ⟨gb314, 1, none⟩ = some (.int .i64 a1_1) := (blk_cell BK314.out 1).trans rfl; have hfz5_0 := blk_frozen BK314.out 0; have hfz5_1 := blk_frozen BK314.out 1) | ((with_reducible refine gate_callee (f := 76) rfl ?_); refine goesL_ (some 7) rfl rfl Try.func76 (by kernel_rfl) rfl #[.slice A0 l0.length c0, .agg #[.int .i64 a1_0, .int .i64 a1_1]] rfl (G.ar) ?_; (with_reducible refine (slices_Index_impl_Tie_impl_Tie.calls k _ _ l0 a1_0 a1_1 t315 _ ?side1 ?side2 A3.out).mono ?_); (case side1 => repeat (first | exact (Kd.C_below HR0.out HB.out) | (with_reducible refine Kd.C_alloc ?_ _) | (with_reducible refine Kd.C_drewN ?_ _) | (with_reducible refine Kd.C_drew ?_))); (case side2 => exact HC0.out); rintro e w6 ⟨rfl, hb⟩; refine ⟨_, rfl, ?_⟩; have n0_ := Aside0.mk (blk_below (g := gb314) (o := .cells #[.int .i64 a1_0, .int .i64 a1_1] 63 (0, 0)) (G.cb BK314.out) hb); have n1_ := Aside0.mk (below_step (G.cB HB.out) hb); clear BK314 HB; revert n0_ n1_; intro BK314 HB; (try clear hb); (try clear hb2); (try clear hk); (try clear hi)))
 go_ret
 exact ⟨c7_11, G.cB HB.out⟩

/-! ### impl_Net_has: function 52 -/
def impl_Net_has.f (k : Nat) (a0_0 : Int) (l0_1 : List (S63)) (a1 : Int) (a2 : Int) : Option (Bool) := (impl_tie.f a1 a2).bind fun bt317 => ((slices_Contains_impl_Tie_impl_Tie.f k l0_1 bt317.1 bt317.2).bind fun t319 => (some t319))
theorem impl_Net_has.mono : ∀ a0 a1 a2 a3 k, LeO (impl_Net_has.f k a0 a1 a2 a3) (impl_Net_has.f (k + 1) a0 a1 a2 a3) := by
 intro a0 a1 a2 a3 k
 unfold impl_Net_has.f
 repeat' first
   | (with_reducible exact slices_Contains_impl_Tie_impl_Tie.mono _ _ _ _)
   | (with_reducible exact LeO.refl _)
   | (with_reducible exact LeO.none _)
   | (with_reducible refine LeO.ite ?_ ?_)
   | (with_reducible refine LeO.bind ?_ (fun _ => ?_))
   | exact slices_Contains_impl_Tie_impl_Tie.mono _ _ _ _
   | exact LeO.none _
   | refine LeO.ite ?_ ?_
   | refine LeO.bind ?_ (fun _ => ?_)
set_option maxHeartbeats 8000000 in
set_option maxRecDepth 100000 in
theorem impl_Net_has.calls (k : Nat) (a0_0 : Int) (A0_1 : Option Addr) (c0_1 : Nat) (l0_1 : List (S63)) (a1 : Int) (a2 : Int) (r : Bool) (w : World) (hr0_1 : Kd.C k63 w A0_1 l0_1.length l0_1) (hc0_1 : l0_1.length ≤ c0_1) (h : impl_Net_has.f k a0_0 l0_1 a1 a2 = some r) :
  Calls Try.prog 52 #[.agg #[.int .i64 a0_0, .slice A0_1 l0_1.length c0_1], .int .i64 a1, .int .i64 a2] w fun e w' => e = .returned (.bool r) ∧ Below w.heap.size w w' := by
 have hu29 := Try.underlying29
 have HR0_1 := Aside0.mk hr0_1
 have HC0_1 := Aside0.mk hc0_1
 clear hr0_1 hc0_1
 have HB := Aside0.mk (Below.refl w.heap.size w)
 have H : ((impl_tie.f a1 a2).bind fun bt317 => ((slices_Contains_impl_Tie_impl_Tie.f k l0_1 bt317.1 bt317.2).bind fun t319 => (some t319))) = some r := h
 clear h
 replace H := Option.bind_eq_some_iff.mp H
 obtain ⟨⟨t317, t318⟩, A40, H⟩ := H
 replace H : ((slices_Contains_impl_Tie_impl_Tie.f k l0_1 t317 t318).bind fun t319 => (some t319)) = some r := H
 have A4 := Aside0.mk A40
 clear A40
 replace H := Option.bind_eq_some_iff.mp H
 obtain ⟨t319, A50, H⟩ := H
 replace H : (some t319) = some r := H
 have A5 := Aside0.mk A50
 clear A50
 obtain rfl := Option.some.inj H
 go_enter Try.func52, Try.ntmps52
 try go_wp2_with (first | ((with_reducible refine gate_dst (N := 3) rfl ?_); refine G.be 3 #[.int .i64 a0_0, .slice A0_1 l0_1.length c0_1] 29 ?_; intro gb316 hg w6 hbox hb; have n0_ := Aside0.mk (below_step (G.cB HB.out) hb); have n1_ := Aside0.mk (hbox); have n2_ := Aside0.mk ((c7_13 : w.heap.size ≤ gb316)); have n3_ := Aside0.mk ((c7_13 : w.heap.size ≤ gb316)); clear HB; revert n0_ n1_ n2_ n3_; intro HB BK316 GW316 GE316; clear hb hbox hg))
 have n0_ := Aside0.mk (blk_drew BK316.out)
 have n1_ := Aside0.mk (below_drew1 HB.out)
 clear BK316 HB
 revert n0_ n1_
 intro BK316 HB
 refine start_ (n := 7) (S := fun w' => w'.cell? ⟨gb316, 0, none⟩ = some (.int .i64 a0_0) ∧ w'.cell? ⟨gb316, 1, none⟩ = some (.slice A0_1 l0_1.length c0_1)) (ds := []) (G.fl 7 0) (by kernel_rfl) rfl (by kernel_rfl) ⟨(blk_cell BK316.out 0).trans rfl, (blk_cell BK316.out 1).trans rfl⟩ (fun hHeld => ?_)
 generalize w6.drew = w7 at BK316 HB hHeld ⊢
 refine G.pu 0 (some 7) (G.fl 7 1) ?_
 refine G.pu 2 (some 9) (G.fl 7 5) ?_
 refine G.pu 3 (some 10) (G.fl 7 13) ?_
 refine G.ta2 1 (some 8) (G.fl 7 15) ?_
 refine one_ (i := 4) (N := some 11) (G.fl 7 31) rfl rfl (by kernel_rfl) (by decide) (fun K hK => ?_)
 refine goes_ Try.func51 (by kernel_rfl) rfl #[.int .i64 a1, .int .i64 a2] (by rfl) rfl rfl (G.ar) ?_
 with_reducible refine (impl_tie.calls a1 a2 t317 t318 _ A4.out).mono ?_
 rintro e w8 ⟨rfl, hb⟩
 refine ⟨_, rfl, ?_⟩
 have n0_ := Aside0.mk (blk_below (g := gb316) (o := .cells #[.int .i64 a0_0, .slice A0_1 l0_1.length c0_1] 29 (0, 0)) (G.cb BK316.out) hb)
 have n1_ := Aside0.mk (below_step (G.cB HB.out) hb)
 clear BK316 HB
 revert n0_ n1_
 intro BK316 HB
 (try clear hb)
 (try clear hb2)
 (try clear hk)
 (try clear hi)
 refine hK.out _ _ ⟨(blk_cell BK316.out 0).trans rfl, (blk_cell BK316.out 1).trans rfl⟩ (fun hHeld => ?_)
 clear hK K
 refine G.no (some 11) ?_
 refine one_ (i := 5) (N := some 12) (G.fl 7 63) rfl rfl (by kernel_rfl) (by decide) (fun K hK => ?_)
 refine goes_ Try.func69 (by kernel_rfl) rfl #[.slice A0_1 l0_1.length c0_1, .agg #[.int .i64 t317, .int .i64 t318]] (by rfl) rfl rfl (G.ar) ?_
 with_reducible refine (slices_Contains_impl_Tie_impl_Tie.calls k _ _ l0_1 t317 t318 t319 _ ?side1 ?side2 A5.out).mono ?_
 (case side1 => repeat (first | exact (Kd.C_below HR0_1.out HB.out) | (with_reducible refine Kd.C_alloc ?_ _) | (with_reducible refine Kd.C_drewN ?_ _) | (with_reducible refine Kd.C_drew ?_)))
 (case side2 => exact HC0_1.out)
 rintro e w9 ⟨rfl, hb⟩
 refine ⟨_, rfl, ?_⟩
 have n0_ := Aside0.mk (blk_below (g := gb316) (o := .cells #[.int .i64 a0_0, .slice A0_1 l0_1.length c0_1] 29 (0, 0)) (G.cb BK316.out) hb)
 have n1_ := Aside0.mk (below_step (G.cB HB.out) hb)
 clear BK316 HB
 revert n0_ n1_
 intro BK316 HB
 (try clear hb)
 (try clear hb2)
 (try clear hk)
 (try clear hi)
 refine hK.out _ _ ⟨(blk_cell BK316.out 0).trans rfl, (blk_cell BK316.out 1).trans rfl⟩ (fun hHeld => ?_)
 clear hK K
 refine G.no (some 12) ?_
 refine G.pu 6 (some 6) (G.fl 7 127) ?_
 refine done_ (by kernel_rfl) ?_
 try go_wp2
 go_ret
 exact ⟨c7_11, G.cB HB.out⟩

/-! ### impl_Net_less: function 50 -/
def impl_Net_less.l0 : Nat → List (S63) → List (S63) → Int → Int → Int → List (S63) → Option (Int × (List (S63)))
 | 0, _, _, _, _, _, _ => none
 | k + 1, x1, x13, x14, x15, x331000, x331001 => if x15 < x14 then (if 0 ≤ x15 then (if x15 < (x13.length : Int) then ((slices_Contains_impl_Tie_impl_Tie.f k x1 ((rd_T63 x13 x15).f0) ((rd_T63 x13 x15).f1)).bind fun t333 => (if t333 = true then (impl_Net_less.l0 k x1 x13 x14 (wrap64 (x15 + 1)) x331000 x331001) else (if x331001.length < 8796093022208 then (impl_Net_less.l0 k x1 x13 x14 (wrap64 (x15 + 1)) x331000 (x331001 ++ [(⟨(rd_T63 x13 x15).f0, (rd_T63 x13 x15).f1⟩ : S63)])) else (none)))) else (none)) else (none)) else (some (x331000, x331001))
def impl_Net_less.f (k : Nat) (a0_0 : Int) (l0_1 : List (S63)) (l1 : List (S63)) : Option (Int × (List (S63))) := impl_Net_less.l0 k l1 l0_1 (l0_1.length : Int) 0 a0_0 (([] : List (S63)))
theorem impl_Net_less.mono_l : ∀ k, (∀ y0 y1 y2 y3 y4 y5, LeO (impl_Net_less.l0 k y0 y1 y2 y3 y4 y5) (impl_Net_less.l0 (k + 1) y0 y1 y2 y3 y4 y5))
 | 0 => fun _ _ _ _ _ _ r h => by simp [impl_Net_less.l0] at h
 | k + 1 => by
  have ih0 := impl_Net_less.mono_l k
  ·intro y0 y1 y2 y3 y4 y5
   unfold impl_Net_less.l0
   repeat' first
   | (with_reducible exact ih0 _ _ _ _ _ _)
   | (with_reducible exact slices_Contains_impl_Tie_impl_Tie.mono _ _ _ _)
   | (with_reducible exact LeO.refl _)
   | (with_reducible exact LeO.none _)
   | (with_reducible refine LeO.ite ?_ ?_)
   | (with_reducible refine LeO.bind ?_ (fun _ => ?_))
   | exact ih0 _ _ _ _ _ _
   | exact slices_Contains_impl_Tie_impl_Tie.mono _ _ _ _
   | exact LeO.none _
   | refine LeO.ite ?_ ?_
   | refine LeO.bind ?_ (fun _ => ?_)
theorem impl_Net_less.mono : ∀ a0 a1 a2 k, LeO (impl_Net_less.f k a0 a1 a2) (impl_Net_less.f (k + 1) a0 a1 a2) := by
 intro a0 a1 a2 k
 have ih0 := impl_Net_less.mono_l k
 unfold impl_Net_less.f
 repeat' first
   | (with_reducible exact ih0 _ _ _ _ _ _)
   | (with_reducible exact slices_Contains_impl_Tie_impl_Tie.mono _ _ _ _)
   | (with_reducible exact LeO.refl _)
   | (with_reducible exact LeO.none _)
   | (with_reducible refine LeO.ite ?_ ?_)
   | (with_reducible refine LeO.bind ?_ (fun _ => ?_))
   | exact ih0 _ _ _ _ _ _
   | exact slices_Contains_impl_Tie_impl_Tie.mono _ _ _ _
   | exact LeO.none _
   | refine LeO.ite ?_ ?_
   | refine LeO.bind ?_ (fun _ => ?_)
set_option maxHeartbeats 8000000 in
set_option maxRecDepth 100000 in
theorem impl_Net_less.calls (k : Nat) (a0_0 : Int) (A0_1 : Option Addr) (c0_1 : Nat) (l0_1 : List (S63)) (A1 : Option Addr) (c1 : Nat) (l1 : List (S63)) (r1 : Int) (r2 : List (S63)) (w : World) (hr0_1 : Kd.C k63 w A0_1 l0_1.length l0_1) (hc0_1 : l0_1.length ≤ c0_1) (hr1 : Kd.C k63 w A1 l1.length l1) (hc1 : l1.length ≤ c1) (h : impl_Net_less.f k a0_0 l0_1 l1 = some (r1, r2)) :
  Calls Try.prog 50 #[.agg #[.int .i64 a0_0, .slice A0_1 l0_1.length c0_1], .slice A1 l1.length c1] w fun e w' => ∃ v1_ : Value, e = .returned (.agg #[.int .i64 r1, v1_]) ∧ Kd.R k63 63 w' w.heap.size (fun _ => True) v1_ r2 ∧ Below w.heap.size w w' := by
 have hu29 := Try.underlying29
 have hu63 := Try.underlying63
 have HR0_1 := Aside0.mk hr0_1
 have HC0_1 := Aside0.mk hc0_1
 clear hr0_1 hc0_1
 have HR1 := Aside0.mk hr1
 have HC1 := Aside0.mk hc1
 clear hr1 hc1
 have HB := Aside0.mk (Below.refl w.heap.size w)
 have H : (impl_Net_less.l0 k l1 l0_1 (l0_1.length : Int) 0 a0_0 (([] : List (S63)))) = some (r1, r2) := h
 clear h
 obtain ⟨y327, hy327⟩ : ∃ y_ : List (S63), y_ = (([] : List (S63))) := ⟨_, rfl⟩
 replace H : (impl_Net_less.l0 k l1 l0_1 (l0_1.length : Int) 0 a0_0 y327) = some (r1, r2) := by first | (rw [hy327]; with_reducible exact H) | (have H2_ := (Option.bind_some _ _).symm.trans H; rw [hy327]; with_reducible exact H2_) | (have H2_ := (Option.bind_some _ _).symm.trans H; with_reducible exact H2_) | with_reducible exact H | (rw [hy327]; exact H) | exact H
 have Ny327 := Aside0.mk hy327
 clear hy327
 have H' := Aside0.mk H
 clear H
 go_enter Try.func50, Try.ntmps50
 go_wp2_with (first | ((with_reducible refine gate_dst (N := 2) rfl ?_); refine G.be 2 #[.int .i64 a0_0, .slice A0_1 l0_1.length c0_1] 29 ?_; intro gb325 hg w3 hbox hb; have n0_ := Aside0.mk (below_step (G.cB HB.out) hb); have n1_ := Aside0.mk (hbox); have n2_ := Aside0.mk ((c7_13 : w.heap.size ≤ gb325)); have n3_ := Aside0.mk ((c7_13 : w.heap.size ≤ gb325)); clear HB; revert n0_ n1_ n2_ n3_; intro HB BK325 GW325 GE325; clear hb hbox hg) | ((with_reducible refine gate_dst (N := 4) rfl ?_); refine G.be 4 #[.int .i64 0, .slice none 0 0] 29 ?_; intro gb326 hg w4 hbox hb; have n0_ := Aside0.mk (blk_below (g := gb325) (o := .cells #[.int .i64 a0_0, .slice A0_1 l0_1.length c0_1] 29 (0, 0)) (G.cb BK325.out) hb); have n1_ := Aside0.mk (below_step (G.cB HB.out) hb); have n2_ := Aside0.mk (hbox); have n3_ := Aside0.mk ((c7_13 : w.heap.size ≤ gb326)); have n4_ := Aside0.mk ((c7_13 : w.heap.size ≤ gb326)); have n5_ := Aside0.mk ((c7_7 : gb325 ≠ gb326)); have n6_ := Aside0.mk ((c7_8 : gb326 ≠ gb325)); clear BK325 HB; revert n0_ n1_ n2_ n3_ n4_ n5_ n6_; intro BK325 HB BK326 GW326 GE326 NB325_326 NB326_325; clear hb hbox hg; have hnb5 := NB325_326.out; have hnc5 := NB326_325.out; have hcz6_0 : w4.cell? ⟨gb325, 0, none⟩ = some (.int .i64 a0_0) := (blk_cell BK325.out 0).trans rfl; have hcz6_1 : w4.cell? ⟨gb325, 1, none⟩ = some (.slice A0_1 l0_1.length c0_1) := (blk_cell BK325.out 1).trans rfl; have hfz6_0 := blk_frozen BK325.out 0; have hfz6_1 := blk_frozen BK325.out 1) | ((with_reducible refine gate_dst (N := 10) rfl ?_); refine Kd.R_lit k63 _ 63 ?hg (N := 10) ?hd (xs := ([] : List (S63))) (inner := []) (ok := fun _ => True) (okp := fun _ => True) ?hr ?hp (fun _ hk => hk) trivial (Below.refl _ _) (Nat.le_refl _) (by simp) ?_; (case hd => rfl); (case hg => rfl); (case hr => first | (go_simp; done) | (go_simp; rfl)); (case hp => exact (Reps.none _ _)); intro v328 w7 ho8 hb hg_ hnew_; clear hg_ hnew_; (first | rw [← Ny327.out] at ho8 | (simp only [Int.reduceToNat] at ho8; rw [← Ny327.out] at ho8)); have n0_ := Aside0.mk (Kd.R_lower ho8 (below_size (G.cB HB.out))); have n1_ := Aside0.mk (blk_below (g := gb325) (o := .cells #[.int .i64 a0_0, .slice A0_1 l0_1.length c0_1] 29 (0, 0)) (G.cb BK325.out) hb); have n2_ := Aside0.mk (blk_below (g := gb326) (o := .cells #[.int .i64 0, .slice none 0 0] 29 (0, 0)) (G.cb BK326.out) hb); have n3_ := Aside0.mk (below_step (G.cB HB.out) hb); clear BK325 BK326 HB; revert n0_ n1_ n2_ n3_; intro HO329 BK325 BK326 HB; clear hb ho8; obtain ⟨Ao9, co9, eo9⟩ := Kd.R_slice HO329.out; subst eo9) | ((with_reducible refine gate_dst (N := 5) rfl ?_); refine G.be 5 #[.int .i64 0, .slice none 0 0] 29 ?_; intro gb330 hg w10 hbox hb; have n0_ := Aside0.mk (Kd.R_below (G.cR HO329.out) hb); have n1_ := Aside0.mk (blk_below (g := gb325) (o := .cells #[.int .i64 a0_0, .slice A0_1 l0_1.length c0_1] 29 (0, 0)) (G.cb BK325.out) hb); have n2_ := Aside0.mk (blk_below (g := gb326) (o := .cells #[.int .i64 0, .slice none 0 0] 29 (0, 0)) (G.cb BK326.out) hb); have n3_ := Aside0.mk (below_step (G.cB HB.out) hb); have n4_ := Aside0.mk (hbox); have n5_ := Aside0.mk ((c7_13 : w.heap.size ≤ gb330)); have n6_ := Aside0.mk ((c7_13 : w.heap.size ≤ gb330)); have n7_ := Aside0.mk ((c7_7 : gb325 ≠ gb330)); have n8_ := Aside0.mk ((c7_8 : gb330 ≠ gb325)); have n9_ := Aside0.mk ((c7_9 : gb326 ≠ gb330)); have n10_ := Aside0.mk ((c7_10 : gb330 ≠ gb326)); clear HO329 BK325 BK326 HB; revert n0_ n1_ n2_ n3_ n4_ n5_ n6_ n7_ n8_ n9_ n10_; intro HO329 BK325 BK326 HB BK330 GW330 GE330 NB325_330 NB330_325 NB326_330 NB330_326; clear hb hbox hg; have hnb11 := NB330_325.out; have hnc11 := NB325_330.out; have hnb12 := NB330_326.out; have hnc12 := NB326_330.out; have hcz13_0 : w10.cell? ⟨gb330, 0, none⟩ = some (.int .i64 0) := (blk_cell BK330.out 0).trans rfl; have hcz13_1 : w10.cell? ⟨gb330, 1, none⟩ = some (.slice none 0 0) := (blk_cell BK330.out 1).trans rfl; have hfz13_0 := blk_frozen BK330.out 0; have hfz13_1 := blk_frozen BK330.out 1; have hcz14_0 : w10.cell? ⟨gb325, 0, none⟩ = some (.int .i64 a0_0) := (blk_cell BK325.out 0).trans rfl; have hcz14_1 : w10.cell? ⟨gb325, 1, none⟩ = some (.slice A0_1 l0_1.length c0_1) := (blk_cell BK325.out 1).trans rfl; have hfz14_0 := blk_frozen BK325.out 0; have hfz14_1 := blk_frozen BK325.out 1))
 go_loopg [15] k (fun kq v15 w' => ∃ (x15_1 : Int) (x331001_1 : List (S63)) (u331001 : Value), v15 = .int .i64 x15_1 ∧ Aside0 (impl_Net_less.l0 kq l1 l0_1 (l0_1.length : Int) x15_1 a0_0 x331001_1 = some (r1, r2)) ∧ Aside0 (kq ≤ k) ∧ Aside0 (Kd.R k63 63 w' w.heap.size (fun _ => True) u331001 x331001_1) ∧ Aside0 (w'.heap[gb325]? = some (.cells #[.int .i64 a0_0, (.slice A0_1 l0_1.length c0_1)] 29 (0, 0))) ∧ Aside0 (w'.heap[gb326]? = some (.cells #[.int .i64 0, (.slice none 0 0)] 29 (0, 0))) ∧ Aside0 (w'.heap[gb330]? = some (.cells #[.int .i64 a0_0, u331001] 29 (0, 0))) ∧ Aside0 (Below w.heap.size w w'))
 case atStart => exact ⟨(0), (y327), (.slice Ao9 y327.length co9), (c7_12), H', ⟨Nat.le_refl _⟩, ⟨by (with_reducible repeat (first | apply Kd.R_alloc | apply Kd.R_drewN | apply Kd.R_drew)); exact Kd.R_mono (Kd.R_far (p := ⟨gb330, 1, none⟩) (Kd.R_far (p := ⟨gb330, 0, none⟩) (Kd.R_types HO329.out BK330.out (by decide)) (fun _ hk => hk.2) (.int .i64 a0_0)) (fun _ hk => hk.2) (.slice Ao9 y327.length co9)) (fun _ hk => trivial)⟩, ⟨by (with_reducible repeat (first | refine blk_drewN ?_ _ | refine blk_drew ?_ | refine blk_alloc ?_ _)); refine blk_far ?_ NB325_330.out _; (with_reducible repeat (first | refine blk_drewN ?_ _ | refine blk_drew ?_ | refine blk_alloc ?_ _)); refine blk_far ?_ NB325_330.out _; (with_reducible repeat (first | refine blk_drewN ?_ _ | refine blk_drew ?_ | refine blk_alloc ?_ _)); exact BK325.out⟩, ⟨by (with_reducible repeat (first | refine blk_drewN ?_ _ | refine blk_drew ?_ | refine blk_alloc ?_ _)); refine blk_far ?_ NB326_330.out _; (with_reducible repeat (first | refine blk_drewN ?_ _ | refine blk_drew ?_ | refine blk_alloc ?_ _)); refine blk_far ?_ NB326_330.out _; (with_reducible repeat (first | refine blk_drewN ?_ _ | refine blk_drew ?_ | refine blk_alloc ?_ _)); exact BK326.out⟩, ⟨by (with_reducible repeat (first | refine blk_drewN ?_ _ | refine blk_drew ?_ | refine blk_alloc ?_ _)); refine blk_put (cs := #[.int .i64 a0_0, .slice none 0 0]) ?_ 1 _ rfl; (with_reducible repeat (first | refine blk_drewN ?_ _ | refine blk_drew ?_ | refine blk_alloc ?_ _)); refine blk_put (cs := #[.int .i64 0, .slice none 0 0]) ?_ 0 _ rfl; (with_reducible repeat (first | refine blk_drewN ?_ _ | refine blk_drew ?_ | refine blk_alloc ?_ _)); exact BK330.out⟩, ⟨G.cB HB.out⟩⟩
 case round =>
  clear H'
  (try clear c1); (try clear p2); (try clear c5); (try clear c11); (try clear c12); (try clear hcz13_0); (try clear hcz13_1); (try clear hcz14_0); (try clear hcz14_1); (try clear hcz6_0); (try clear hcz6_1); (try clear hfz13_0); (try clear hfz13_1); (try clear hfz14_0); (try clear hfz14_1); (try clear hfz6_0); (try clear hfz6_1)
  obtain ⟨x15_1, x331001_1, u331001, rfl, HA, HK1, HO_331001, BK325, BK326, BK330, HB⟩ := hrel
  cases gk with
  | zero => exact absurd HA.out (by simp [impl_Net_less.l0])
  | succ k1 =>
   have H := HA.out
   clear HA
   simp only [impl_Net_less.l0] at H
   by_cases c15 : x15_1 < (l0_1.length : Int)
   ·rw [if_pos c15] at H
    have c15b0 : decide (x15_1 < (l0_1.length : Int)) = true := decide_eq_true c15
    clear c15
    by_cases c16 : 0 ≤ x15_1
    ·rw [if_pos c16] at H
     have c16b0 : decide (0 ≤ x15_1) = true := decide_eq_true c16
     clear c16
     by_cases c17 : x15_1 < (l0_1.length : Int)
     ·rw [if_pos c17] at H
      have c17b0 : decide (x15_1 < (l0_1.length : Int)) = true := decide_eq_true c17
      clear c17
      replace H := Option.bind_eq_some_iff.mp H
      obtain ⟨t333, A180, H⟩ := H
      replace H : (if t333 = true then (impl_Net_less.l0 k1 l1 l0_1 (l0_1.length : Int) (wrap64 (x15_1 + 1)) a0_0 x331001_1) else (if x331001_1.length < 8796093022208 then (impl_Net_less.l0 k1 l1 l0_1 (l0_1.length : Int) (wrap64 (x15_1 + 1)) a0_0 (x331001_1 ++ [(⟨(rd_T63 l0_1 x15_1).f0, (rd_T63 l0_1 x15_1).f1⟩ : S63)])) else (none))) = some (r1, r2) := H
      have A18 := Aside0.mk A180
      clear A180
      by_cases c19 : t333 = true
      ·subst c19
       have H1 : (impl_Net_less.l0 k1 l1 l0_1 (l0_1.length : Int) (wrap64 (x15_1 + 1)) a0_0 x331001_1) = some (r1, r2) := by rw [if_pos rfl] at H; exact H
       clear H
       have H := H1
       clear H1
       have H' := Aside0.mk H
       clear H
       have p331 : 0 ≤ (x15_1 : Int) := of_decide_eq_true (G.asm)
       have q331 : x15_1 < (l0_1.length : Int) := of_decide_eq_true (G.asm)
       obtain ⟨ad331, e331, hx331_0, hx331_1⟩ := at_T63 HR0_1.out x15_1 p331 q331
       cases e331
       replace hx331_0 := (HB.out.cell (World.block_lt_of_cell? w _ hx331_0)).trans hx331_0
       replace hx331_1 := (HB.out.cell (World.block_lt_of_cell? w _ hx331_1)).trans hx331_1
       replace p331 := eq_true p331
       replace q331 := eq_true q331
       go_wp2_with (first | ((with_reducible refine gate_dst (N := 7) rfl ?_); refine G.be 7 #[.int .i64 0, .int .i64 0] 63 ?_; intro gb332 hg w20 hbox hb; have n0_ := Aside0.mk (Kd.R_below (Kd.R_elderB (G.cR HO_331001.out) gb332 (Nat.le_of_eq hg.symm)) hb); have n1_ := Aside0.mk (blk_below (g := gb325) (o := .cells #[.int .i64 a0_0, .slice (some ad331) l0_1.length c0_1] 29 (0, 0)) (G.cb BK325.out) hb); have n2_ := Aside0.mk (blk_below (g := gb326) (o := .cells #[.int .i64 0, .slice none 0 0] 29 (0, 0)) (G.cb BK326.out) hb); have n3_ := Aside0.mk (blk_below (g := gb330) (o := .cells #[.int .i64 a0_0, u331001] 29 (0, 0)) (G.cb BK330.out) hb); have n4_ := Aside0.mk (below_step (G.cB HB.out) hb); have n5_ := Aside0.mk (hbox); have n6_ := Aside0.mk ((c7_13 : w.heap.size ≤ gb332)); have n7_ := Aside0.mk ((c7_13 : w.heap.size ≤ gb332)); have n8_ := Aside0.mk ((c7_5 : gb325 ≠ gb332)); have n9_ := Aside0.mk ((c7_6 : gb332 ≠ gb325)); have n10_ := Aside0.mk ((c7_9 : gb326 ≠ gb332)); have n11_ := Aside0.mk ((c7_10 : gb332 ≠ gb326)); have n12_ := Aside0.mk ((by rw [hg]; exact Nat.ne_of_lt (blk_lt (g := gb330) (o := .cells #[.int .i64 a0_0, u331001] 29 (0, 0)) (G.cb BK330.out)) : gb330 ≠ gb332)); have n13_ := Aside0.mk ((by rw [hg]; exact Nat.ne_of_gt (blk_lt (g := gb330) (o := .cells #[.int .i64 a0_0, u331001] 29 (0, 0)) (G.cb BK330.out)) : gb332 ≠ gb330)); clear HO_331001 BK325 BK326 BK330 HB; revert n0_ n1_ n2_ n3_ n4_ n5_ n6_ n7_ n8_ n9_ n10_ n11_ n12_ n13_; intro HO_331001 BK325 BK326 BK330 HB BK332 GW332 GE332 NB325_332 NB332_325 NB326_332 NB332_326 NB330_332 NB332_330; clear hb hbox hg; have hnb21 := NB332_325.out; have hnc21 := NB325_332.out; have hnb22 := NB332_326.out; have hnc22 := NB326_332.out; have hnb23 := NB332_330.out; have hnc23 := NB330_332.out; have hcz24_0 : w20.cell? ⟨gb332, 0, none⟩ = some (.int .i64 0) := (blk_cell BK332.out 0).trans rfl; have hcz24_1 : w20.cell? ⟨gb332, 1, none⟩ = some (.int .i64 0) := (blk_cell BK332.out 1).trans rfl; have hfz24_0 := blk_frozen BK332.out 0; have hfz24_1 := blk_frozen BK332.out 1) | ((with_reducible refine gate_callee (f := 69) rfl ?_); refine goesL_ (some 21) rfl rfl Try.func69 (by kernel_rfl) rfl #[.slice A1 l1.length c1, .agg #[.int .i64 ((rd_T63 l0_1 x15_1).f0), .int .i64 ((rd_T63 l0_1 x15_1).f1)]] rfl (G.ar) ?_; (with_reducible refine (slices_Contains_impl_Tie_impl_Tie.calls k1 _ _ l1 ((rd_T63 l0_1 x15_1).f0) ((rd_T63 l0_1 x15_1).f1) true _ ?side1 ?side2 A18.out).mono ?_); (case side1 => exact Kd.C_below HR1.out (G.cB HB.out)); (case side2 => exact HC1.out); rintro e w25 ⟨rfl, hb⟩; refine ⟨_, rfl, ?_⟩; have n0_ := Aside0.mk (Kd.R_below (c7_4) hb); have n1_ := Aside0.mk (blk_below (g := gb325) (o := .cells #[.int .i64 a0_0, .slice (some ad331) l0_1.length c0_1] 29 (0, 0)) (c7_1) hb); have n2_ := Aside0.mk (blk_below (g := gb326) (o := .cells #[.int .i64 0, .slice none 0 0] 29 (0, 0)) (c7_2) hb); have n3_ := Aside0.mk (blk_below (g := gb330) (o := .cells #[.int .i64 a0_0, u331001] 29 (0, 0)) (c7_3) hb); have n4_ := Aside0.mk (blk_below (g := gb332) (o := .cells #[.int .i64 ((rd_T63 l0_1 x15_1).f0), .int .i64 ((rd_T63 l0_1 x15_1).f1)] 63 (0, 0)) (c7_0) hb); have n5_ := Aside0.mk (below_step (G.cB HB.out) hb); clear HO_331001 BK325 BK326 BK330 BK332 HB; revert n0_ n1_ n2_ n3_ n4_ n5_; intro HO_331001 BK325 BK326 BK330 BK332 HB; (try clear hb); (try clear hb2); (try clear hk); (try clear hi)))
       go_roundg k1
       case measure => have := HK1.out; omega
       case rel => exact ⟨(wrap64 (x15_1 + 1)), (x331001_1), (u331001), (c7_12), H', ⟨by have := HK1.out; omega⟩, ⟨by (with_reducible repeat (first | apply Kd.R_alloc | apply Kd.R_drewN | apply Kd.R_drew)); exact Kd.R_mono HO_331001.out (fun _ hk => trivial)⟩, ⟨G.cb BK325.out⟩, ⟨G.cb BK326.out⟩, ⟨G.cb BK330.out⟩, ⟨G.cB HB.out⟩⟩
      ·replace c19 := Bool.eq_false_iff.mpr c19
       subst c19
       have H1 : (if x331001_1.length < 8796093022208 then (impl_Net_less.l0 k1 l1 l0_1 (l0_1.length : Int) (wrap64 (x15_1 + 1)) a0_0 (x331001_1 ++ [(⟨(rd_T63 l0_1 x15_1).f0, (rd_T63 l0_1 x15_1).f1⟩ : S63)])) else (none)) = some (r1, r2) := by rw [if_neg (show ¬ (false = true) by decide)] at H; exact H
       clear H
       have H := H1
       clear H1
       by_cases c26 : x331001_1.length < 8796093022208
       ·rw [if_pos c26] at H
        have LMc26 := Aside0.mk c26
        clear c26
        obtain ⟨y334, hy334⟩ : ∃ y_ : List (S63), y_ = (x331001_1 ++ [(⟨(rd_T63 l0_1 x15_1).f0, (rd_T63 l0_1 x15_1).f1⟩ : S63)]) := ⟨_, rfl⟩
        replace H : (impl_Net_less.l0 k1 l1 l0_1 (l0_1.length : Int) (wrap64 (x15_1 + 1)) a0_0 y334) = some (r1, r2) := by first | (rw [hy334]; with_reducible exact H) | (have H2_ := (Option.bind_some _ _).symm.trans H; rw [hy334]; with_reducible exact H2_) | (have H2_ := (Option.bind_some _ _).symm.trans H; with_reducible exact H2_) | with_reducible exact H | (rw [hy334]; exact H) | exact H
        have Ny334 := Aside0.mk hy334
        clear hy334
        have H' := Aside0.mk H
        clear H
        have p331 : 0 ≤ (x15_1 : Int) := of_decide_eq_true (G.asm)
        have q331 : x15_1 < (l0_1.length : Int) := of_decide_eq_true (G.asm)
        obtain ⟨ad331, e331, hx331_0, hx331_1⟩ := at_T63 HR0_1.out x15_1 p331 q331
        cases e331
        replace hx331_0 := (HB.out.cell (World.block_lt_of_cell? w _ hx331_0)).trans hx331_0
        replace hx331_1 := (HB.out.cell (World.block_lt_of_cell? w _ hx331_1)).trans hx331_1
        replace p331 := eq_true p331
        replace q331 := eq_true q331
        go_wp2_with (first | ((with_reducible refine gate_dst (N := 7) rfl ?_); refine G.be 7 #[.int .i64 0, .int .i64 0] 63 ?_; intro gb332 hg w27 hbox hb; have n0_ := Aside0.mk (Kd.R_below (Kd.R_elderB (G.cR HO_331001.out) gb332 (Nat.le_of_eq hg.symm)) hb); have n1_ := Aside0.mk (blk_below (g := gb325) (o := .cells #[.int .i64 a0_0, .slice (some ad331) l0_1.length c0_1] 29 (0, 0)) (G.cb BK325.out) hb); have n2_ := Aside0.mk (blk_below (g := gb326) (o := .cells #[.int .i64 0, .slice none 0 0] 29 (0, 0)) (G.cb BK326.out) hb); have n3_ := Aside0.mk (blk_below (g := gb330) (o := .cells #[.int .i64 a0_0, u331001] 29 (0, 0)) (G.cb BK330.out) hb); have n4_ := Aside0.mk (below_step (G.cB HB.out) hb); have n5_ := Aside0.mk (hbox); have n6_ := Aside0.mk ((c7_13 : w.heap.size ≤ gb332)); have n7_ := Aside0.mk ((c7_13 : w.heap.size ≤ gb332)); have n8_ := Aside0.mk ((c7_5 : gb325 ≠ gb332)); have n9_ := Aside0.mk ((c7_6 : gb332 ≠ gb325)); have n10_ := Aside0.mk ((c7_9 : gb326 ≠ gb332)); have n11_ := Aside0.mk ((c7_10 : gb332 ≠ gb326)); have n12_ := Aside0.mk ((by rw [hg]; exact Nat.ne_of_lt (blk_lt (g := gb330) (o := .cells #[.int .i64 a0_0, u331001] 29 (0, 0)) (G.cb BK330.out)) : gb330 ≠ gb332)); have n13_ := Aside0.mk ((by rw [hg]; exact Nat.ne_of_gt (blk_lt (g := gb330) (o := .cells #[.int .i64 a0_0, u331001] 29 (0, 0)) (G.cb BK330.out)) : gb332 ≠ gb330)); clear HO_331001 BK325 BK326 BK330 HB; revert n0_ n1_ n2_ n3_ n4_ n5_ n6_ n7_ n8_ n9_ n10_ n11_ n12_ n13_; intro HO_331001 BK325 BK326 BK330 HB BK332 GW332 GE332 NB325_332 NB332_325 NB326_332 NB332_326 NB330_332 NB332_330; clear hb hbox hg; have hnb28 := NB332_325.out; have hnc28 := NB325_332.out; have hnb29 := NB332_326.out; have hnc29 := NB326_332.out; have hnb30 := NB332_330.out; have hnc30 := NB330_332.out; have hcz31_0 : w27.cell? ⟨gb332, 0, none⟩ = some (.int .i64 0) := (blk_cell BK332.out 0).trans rfl; have hcz31_1 : w27.cell? ⟨gb332, 1, none⟩ = some (.int .i64 0) := (blk_cell BK332.out 1).trans rfl; have hfz31_0 := blk_frozen BK332.out 0; have hfz31_1 := blk_frozen BK332.out 1) | ((with_reducible refine gate_callee (f := 69) rfl ?_); refine goesL_ (some 21) rfl rfl Try.func69 (by kernel_rfl) rfl #[.slice A1 l1.length c1, .agg #[.int .i64 ((rd_T63 l0_1 x15_1).f0), .int .i64 ((rd_T63 l0_1 x15_1).f1)]] rfl (G.ar) ?_; (with_reducible refine (slices_Contains_impl_Tie_impl_Tie.calls k1 _ _ l1 ((rd_T63 l0_1 x15_1).f0) ((rd_T63 l0_1 x15_1).f1) false _ ?side1 ?side2 A18.out).mono ?_); (case side1 => exact Kd.C_below HR1.out (G.cB HB.out)); (case side2 => exact HC1.out); rintro e w32 ⟨rfl, hb⟩; refine ⟨_, rfl, ?_⟩; have n0_ := Aside0.mk (Kd.R_below (c7_4) hb); have n1_ := Aside0.mk (blk_below (g := gb325) (o := .cells #[.int .i64 a0_0, .slice (some ad331) l0_1.length c0_1] 29 (0, 0)) (c7_1) hb); have n2_ := Aside0.mk (blk_below (g := gb326) (o := .cells #[.int .i64 0, .slice none 0 0] 29 (0, 0)) (c7_2) hb); have n3_ := Aside0.mk (blk_below (g := gb330) (o := .cells #[.int .i64 a0_0, u331001] 29 (0, 0)) (c7_3) hb); have n4_ := Aside0.mk (blk_below (g := gb332) (o := .cells #[.int .i64 ((rd_T63 l0_1 x15_1).f0), .int .i64 ((rd_T63 l0_1 x15_1).f1)] 63 (0, 0)) (c7_0) hb); have n5_ := Aside0.mk (below_step (G.cB HB.out) hb); clear HO_331001 BK325 BK326 BK330 BK332 HB; revert n0_ n1_ n2_ n3_ n4_ n5_; intro HO_331001 BK325 BK326 BK330 BK332 HB; (try clear hb); (try clear hb2); (try clear hk); (try clear hi); have hnb33 := NB330_325.out; have hnc33 := NB325_330.out; have hnb34 := NB330_326.out; have hnc34 := NB326_330.out; have hcz35_0 : w32.cell? ⟨gb330, 0, none⟩ = some (.int .i64 a0_0) := (blk_cell BK330.out 0).trans rfl; have hcz35_1 : w32.cell? ⟨gb330, 1, none⟩ = some (u331001) := (blk_cell BK330.out 1).trans rfl; have hfz35_0 := blk_frozen BK330.out 0; have hfz35_1 := blk_frozen BK330.out 1; have hcz36_0 : w32.cell? ⟨gb332, 0, none⟩ = some (.int .i64 ((rd_T63 l0_1 x15_1).f0)) := (blk_cell BK332.out 0).trans rfl; have hcz36_1 : w32.cell? ⟨gb332, 1, none⟩ = some (.int .i64 ((rd_T63 l0_1 x15_1).f1)) := (blk_cell BK332.out 1).trans rfl; have hfz36_0 := blk_frozen BK332.out 0; have hfz36_1 := blk_frozen BK332.out 1) | ((with_reducible refine gate_builtin (b := .append) (xs := #[.tmp 24, .tmp 26]) rfl ?_); at_builtin; refine Kd.R_append k63 (w0 := w) w.heap.size rfl (.tmp 24) (.tmp 26) 27 63 (.agg #[(.int .i64 0), (.int .i64 0)]) 16 rfl Try.underlying27 info63 rfl (by decide) (by omega) u331001 x331001_1 (⟨(rd_T63 l0_1 x15_1).f0, (rd_T63 l0_1 x15_1).f1⟩ : S63) [.int .i64 ((rd_T63 l0_1 x15_1).f0), .int .i64 ((rd_T63 l0_1 x15_1).f1)] (fun k_ => k_ ≠ gb332) (fun _ => False) rfl rfl ?aP (fun _ hk => hk.elim) ?aF ?aO ?aB ?aS ?aL ?_; (case aP => exact k63_mkM _ _ _ (⟨(rd_T63 l0_1 x15_1).f0, (rd_T63 l0_1 x15_1).f1⟩ : S63)); (case aB => exact (G.cB HB.out)); (case aF => exact (fun k_ hk => Kd.freshB (g := gb332) (o := .cells #[.int .i64 ((rd_T63 l0_1 x15_1).f0), .int .i64 ((rd_T63 l0_1 x15_1).f1)] 63 (0, 0)) (G.cb BK332.out) k_ hk)); (case aO => exact (by (with_reducible repeat (first | apply Kd.R_alloc | apply Kd.R_drewN | apply Kd.R_drew)); exact Kd.R_mono HO_331001.out (fun _ hk => hk.2))); (case aS => exact (below_size (G.cB HB.out))); (case aL => have := LMc26.out; omega); intro v335 w37 ho hb hg hat; rw [← Ny334.out] at ho; have n0_ := Aside0.mk (blk_grown (g := gb325) (o := .cells #[.int .i64 a0_0, .slice (some ad331) l0_1.length c0_1] 29 (0, 0)) (G.cb BK325.out) hg (Kd.R_ne HO_331001.out BK325.out (by decide))); have n1_ := Aside0.mk (blk_grown (g := gb326) (o := .cells #[.int .i64 0, .slice none 0 0] 29 (0, 0)) (G.cb BK326.out) hg (Kd.R_ne HO_331001.out BK326.out (by decide))); have n2_ := Aside0.mk (blk_grown (g := gb330) (o := .cells #[.int .i64 a0_0, u331001] 29 (0, 0)) (G.cb BK330.out) hg (Kd.R_ne HO_331001.out BK330.out (by decide))); have n3_ := Aside0.mk (blk_grown (g := gb332) (o := .cells #[.int .i64 ((rd_T63 l0_1 x15_1).f0), .int .i64 ((rd_T63 l0_1 x15_1).f1)] 63 (0, 0)) (G.cb BK332.out) hg (Kd.R_away HO_331001.out (fun _ hk => hk.2))); have n4_ := Aside0.mk (hb); have n5_ := Aside0.mk (ho); clear BK325 BK326 BK330 BK332 HB HO_331001; revert n0_ n1_ n2_ n3_ n4_ n5_; intro BK325 BK326 BK330 BK332 HB HO336; clear ho hb hg hat; obtain ⟨Ao38, co38, eo38⟩ := Kd.R_slice HO336.out; subst eo38; have hcz39_0 : w37.cell? ⟨gb330, 0, none⟩ = some (.int .i64 a0_0) := (blk_cell BK330.out 0).trans rfl; have hcz39_1 : w37.cell? ⟨gb330, 1, none⟩ = some (u331001) := (blk_cell BK330.out 1).trans rfl; have hfz39_0 := blk_frozen BK330.out 0; have hfz39_1 := blk_frozen BK330.out 1))
        go_roundg k1
        case measure => have := HK1.out; omega
        case rel => exact ⟨(wrap64 (x15_1 + 1)), (y334), (.slice Ao38 y334.length co38), (c7_12), H', ⟨by have := HK1.out; omega⟩, ⟨by (with_reducible repeat (first | apply Kd.R_alloc | apply Kd.R_drewN | apply Kd.R_drew)); exact Kd.R_mono (Kd.R_far (p := ⟨gb330, 1, none⟩) (Kd.R_types HO336.out BK330.out (by decide)) (fun _ hk => hk.2) (.slice Ao38 y334.length co38)) (fun _ hk => trivial)⟩, ⟨by (with_reducible repeat (first | refine blk_drewN ?_ _ | refine blk_drew ?_ | refine blk_alloc ?_ _)); refine blk_far ?_ NB325_330.out _; (with_reducible repeat (first | refine blk_drewN ?_ _ | refine blk_drew ?_ | refine blk_alloc ?_ _)); exact BK325.out⟩, ⟨by (with_reducible repeat (first | refine blk_drewN ?_ _ | refine blk_drew ?_ | refine blk_alloc ?_ _)); refine blk_far ?_ NB326_330.out _; (with_reducible repeat (first | refine blk_drewN ?_ _ | refine blk_drew ?_ | refine blk_alloc ?_ _)); exact BK326.out⟩, ⟨by (with_reducible repeat (first | refine blk_drewN ?_ _ | refine blk_drew ?_ | refine blk_alloc ?_ _)); refine blk_put (cs := #[.int .i64 a0_0, u331001]) ?_ 1 _ rfl; (with_reducible repeat (first | refine blk_drewN ?_ _ | refine blk_drew ?_ | refine blk_alloc ?_ _)); exact BK330.out⟩, ⟨G.cB HB.out⟩⟩
       ·rw [if_neg c26] at H
        exact absurd H (by simp)
     ·rw [if_neg c17] at H
      exact absurd H (by simp)
    ·rw [if_neg c16] at H
     exact absurd H (by simp)
   ·rw [if_neg c15] at H
    have c15b0 : decide (x15_1 < (l0_1.length : Int)) = false := decide_eq_false c15
    clear c15
    simp only [Option.some.injEq, Prod.mk.injEq] at H
    obtain ⟨rfl, rfl⟩ := H
    have hnb40 := NB330_325.out
    have hnc40 := NB325_330.out
    have hnb41 := NB330_326.out
    have hnc41 := NB326_330.out
    have hcz42_0 : wr.cell? ⟨gb330, 0, none⟩ = some (.int .i64 a0_0) := (blk_cell BK330.out 0).trans rfl
    have hcz42_1 : wr.cell? ⟨gb330, 1, none⟩ = some (u331001) := (blk_cell BK330.out 1).trans rfl
    have hfz42_0 := blk_frozen BK330.out 0
    have hfz42_1 := blk_frozen BK330.out 1
    have hnb43 := NB326_325.out
    have hnc43 := NB325_326.out
    have hcz44_0 : wr.cell? ⟨gb326, 0, none⟩ = some (.int .i64 0) := (blk_cell BK326.out 0).trans rfl
    have hcz44_1 : wr.cell? ⟨gb326, 1, none⟩ = some (.slice none 0 0) := (blk_cell BK326.out 1).trans rfl
    have hfz44_0 := blk_frozen BK326.out 0
    have hfz44_1 := blk_frozen BK326.out 1
    obtain ⟨Ao45, co45, eo45⟩ := Kd.R_slice HO_331001.out
    subst eo45
    go_wp2
    refine bodyPost_ret (results_cell_row rfl _ _ gb326 29 #[.int .i64 a0_0, .slice Ao45 x331001_1.length co45] (0, 0) _ rfl (by (with_reducible repeat (first | refine blk_drewN ?_ _ | refine blk_drew ?_ | refine blk_alloc ?_ _)); refine blk_put (cs := #[.int .i64 a0_0, .slice none 0 0]) ?_ 1 _ rfl; (with_reducible repeat (first | refine blk_drewN ?_ _ | refine blk_drew ?_ | refine blk_alloc ?_ _)); refine blk_put (cs := #[.int .i64 0, .slice none 0 0]) ?_ 0 _ rfl; (with_reducible repeat (first | refine blk_drewN ?_ _ | refine blk_drew ?_ | refine blk_alloc ?_ _)); exact BK326.out) Try.underlying29 rfl (by kernel_rfl)) rfl ?_
    exact ⟨_, by first | rfl | (simp [errW_none, errW_some] <;> rfl) | (simp [*, errW_none, errW_some] <;> rfl), by (with_reducible repeat (first | apply Kd.R_alloc | apply Kd.R_drewN | apply Kd.R_drew)); exact Kd.R_mono (Kd.R_far (p := ⟨gb326, 1, none⟩) (Kd.R_far (p := ⟨gb326, 0, none⟩) (Kd.R_types HO_331001.out BK326.out (by decide)) (fun _ hk => hk.2) (.int .i64 a0_0)) (fun _ hk => hk.2) (.slice Ao45 x331001_1.length co45)) (fun _ hk => trivial), G.cB HB.out⟩

end Go.Proofs.Ytbkdpnfjcnkoeaa.P
