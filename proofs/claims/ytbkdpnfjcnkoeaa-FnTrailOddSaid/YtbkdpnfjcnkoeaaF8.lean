-- Printed by a program of this session (mp.py, over the kit's print). Not trusted: Lean checks it.
import Derived.Test.YtbkdpnfjcnkoeaaF0
namespace Go.Proofs.Ytbkdpnfjcnkoeaa.P
open Go.RowKit Go.Proofs.YtbkdpnfjcnkoeaaW.PrintWords Go.Proofs.YtbkdpnfjcnkoeaaW.PrintLast Go.Proofs.YtbkdpnfjcnkoeaaW.PrintMore
attribute [local go_sem] max2_int min2_int max_two min_two max_three min_three max_four min_four   -- for this text's walks alone
set_option linter.unusedVariables false
set_option linter.unusedSimpArgs false

theorem c8_0 {p : Prop} (h : p := by (with_reducible repeat (first | refine blk_drewN ?_ _ | refine blk_drew ?_ | refine blk_alloc ?_ _)); refine blk_put (cs := #[.int .i64 ((rd_T63 l0_1 x24_3).f0), .int .i64 0]) ?_ 1 _ rfl; (with_reducible repeat (first | refine blk_drewN ?_ _ | refine blk_drew ?_ | refine blk_alloc ?_ _)); refine blk_put (cs := #[.int .i64 0, .int .i64 0]) ?_ 0 _ rfl; (with_reducible repeat (first | refine blk_drewN ?_ _ | refine blk_drew ?_ | refine blk_alloc ?_ _)); exact BK211.out) : p := h
theorem c8_1 {p : Prop} (h : p := by (with_reducible repeat (first | refine blk_drewN ?_ _ | refine blk_drew ?_ | refine blk_alloc ?_ _)); refine blk_far ?_ NB203_211.out _; (with_reducible repeat (first | refine blk_drewN ?_ _ | refine blk_drew ?_ | refine blk_alloc ?_ _)); refine blk_far ?_ NB203_211.out _; (with_reducible repeat (first | refine blk_drewN ?_ _ | refine blk_drew ?_ | refine blk_alloc ?_ _)); exact BK203.out) : p := h
theorem c8_2 {p : Prop} (h : p := by (with_reducible repeat (first | apply Kd.R_alloc | apply Kd.R_drewN | apply Kd.R_drew)); exact Kd.R_mono (Kd.R_far (p := ⟨gb211, 1, none⟩) (Kd.R_far (p := ⟨gb211, 0, none⟩) (Kd.R_types HO_3.out BK211.out (by decide)) (fun _ hk => hk.2) (.int .i64 ((rd_T63 l0_1 x24_3).f0))) (fun _ hk => hk.2) (.int .i64 ((rd_T63 l0_1 x24_3).f1))) (fun _ hk => trivial)) : p := h
theorem c8_3 {p : Prop} (h : p := by rw [hg]; exact Nat.ne_of_lt (blk_lt (g := gb203) (o := .cells #[.int .i64 a0_0, .slice (some ad210) l0_1.length c0_1] 29 (0, 0)) (G.cb BK203.out))) : p := h
theorem c8_4 {p : Prop} (h : p := by rw [hg]; exact Nat.ne_of_gt (blk_lt (g := gb203) (o := .cells #[.int .i64 a0_0, .slice (some ad210) l0_1.length c0_1] 29 (0, 0)) (G.cb BK203.out))) : p := h
theorem c8_5 {p : Prop} (h : p := by first | rfl | (simp; done) | (simp [*]; done)) : p := h
theorem c8_6 {p : Prop} (h : p := by rw [hg]; exact (below_size (G.cB HB.out))) : p := h
/-! ### impl_Net_parts: function 75 -/
mutual
def impl_Net_parts.l0 : Nat → List Int → Int → Int → Int → List (S63) → Option (List Int)
 | 0, _, _, _, _, _ => none
 | k + 1, x3, x11, x12, x204000, x204001 => if x12 < x11 then (if x3.length < 17592186044416 then (impl_Net_parts.l0 k (x3 ++ [x12]) x11 (wrap64 (x12 + 1)) x204000 x204001) else (none)) else (impl_Net_parts.l1 k x3 true x204000 x204001)
def impl_Net_parts.l1 : Nat → List Int → Bool → Int → List (S63) → Option (List Int)
 | 0, _, _, _, _ => none
 | k + 1, x3, x5, x204000, x204001 => if x5 = true then (impl_Net_parts.l2 k x3 false x204001 (x204001.length : Int) 0 x204000 x204001) else (some x3)
def impl_Net_parts.l2 : Nat → List Int → Bool → List (S63) → Int → Int → Int → List (S63) → Option (List Int)
 | 0, _, _, _, _, _, _, _ => none
 | k + 1, x3, x5, x22, x23, x24, x204000, x204001 => if x24 < x23 then (if 0 ≤ x24 then (if x24 < (x22.length : Int) then (if 0 ≤ ((rd_T63 x22 x24).f0) then (if ((rd_T63 x22 x24).f0) < (x3.length : Int) then (if 0 ≤ ((rd_T63 x22 x24).f1) then (if ((rd_T63 x22 x24).f1) < (x3.length : Int) then (if (rd x3 ((rd_T63 x22 x24).f0)) = (rd x3 ((rd_T63 x22 x24).f1)) then (impl_Net_parts.l2 k x3 x5 x22 x23 (wrap64 (x24 + 1)) x204000 x204001) else (impl_Net_parts.l2 k ((x3.set (((rd_T63 x22 x24).f0) : Int).toNat (mn (rd x3 ((rd_T63 x22 x24).f0)) (rd x3 ((rd_T63 x22 x24).f1)))).set (((rd_T63 x22 x24).f1) : Int).toNat (mn (rd x3 ((rd_T63 x22 x24).f0)) (rd x3 ((rd_T63 x22 x24).f1)))) true x22 x23 (wrap64 (x24 + 1)) x204000 x204001)) else (none)) else (none)) else (none)) else (none)) else (none)) else (none)) else (impl_Net_parts.l1 k x3 x5 x204000 x204001)
end
def impl_Net_parts.f (k : Nat) (a0_0 : Int) (l0_1 : List (S63)) : Option (List Int) := impl_Net_parts.l0 k (([] : List Int)) a0_0 0 a0_0 l0_1
theorem impl_Net_parts.mono_l : ∀ k, (∀ y0 y1 y2 y3 y4, LeO (impl_Net_parts.l0 k y0 y1 y2 y3 y4) (impl_Net_parts.l0 (k + 1) y0 y1 y2 y3 y4)) ∧ (∀ y0 y1 y2 y3, LeO (impl_Net_parts.l1 k y0 y1 y2 y3) (impl_Net_parts.l1 (k + 1) y0 y1 y2 y3)) ∧ (∀ y0 y1 y2 y3 y4 y5 y6, LeO (impl_Net_parts.l2 k y0 y1 y2 y3 y4 y5 y6) (impl_Net_parts.l2 (k + 1) y0 y1 y2 y3 y4 y5 y6))
 | 0 => ⟨fun _ _ _ _ _ r h => by simp [impl_Net_parts.l0] at h, fun _ _ _ _ r h => by simp [impl_Net_parts.l1] at h, fun _ _ _ _ _ _ _ r h => by simp [impl_Net_parts.l2] at h⟩
 | k + 1 => by
  obtain ⟨ih0, ih1, ih2⟩ := impl_Net_parts.mono_l k
  refine ⟨?_, ?_, ?_⟩
  ·intro y0 y1 y2 y3 y4
   unfold impl_Net_parts.l0
   repeat' first
   | (with_reducible exact ih0 _ _ _ _ _)
   | (with_reducible exact ih1 _ _ _ _)
   | (with_reducible exact ih2 _ _ _ _ _ _ _)
   | (with_reducible exact LeO.refl _)
   | (with_reducible exact LeO.none _)
   | (with_reducible refine LeO.ite ?_ ?_)
   | (with_reducible refine LeO.bind ?_ (fun _ => ?_))
   | exact ih0 _ _ _ _ _
   | exact ih1 _ _ _ _
   | exact ih2 _ _ _ _ _ _ _
   | exact LeO.none _
   | refine LeO.ite ?_ ?_
   | refine LeO.bind ?_ (fun _ => ?_)
  ·intro y0 y1 y2 y3
   unfold impl_Net_parts.l1
   repeat' first
   | (with_reducible exact ih0 _ _ _ _ _)
   | (with_reducible exact ih1 _ _ _ _)
   | (with_reducible exact ih2 _ _ _ _ _ _ _)
   | (with_reducible exact LeO.refl _)
   | (with_reducible exact LeO.none _)
   | (with_reducible refine LeO.ite ?_ ?_)
   | (with_reducible refine LeO.bind ?_ (fun _ => ?_))
   | exact ih0 _ _ _ _ _
   | exact ih1 _ _ _ _
   | exact ih2 _ _ _ _ _ _ _
   | exact LeO.none _
   | refine LeO.ite ?_ ?_
   | refine LeO.bind ?_ (fun _ => ?_)
  ·intro y0 y1 y2 y3 y4 y5 y6
   unfold impl_Net_parts.l2
   repeat' first
   | (with_reducible exact ih0 _ _ _ _ _)
   | (with_reducible exact ih1 _ _ _ _)
   | (with_reducible exact ih2 _ _ _ _ _ _ _)
   | (with_reducible exact LeO.refl _)
   | (with_reducible exact LeO.none _)
   | (with_reducible refine LeO.ite ?_ ?_)
   | (with_reducible refine LeO.bind ?_ (fun _ => ?_))
   | exact ih0 _ _ _ _ _
   | exact ih1 _ _ _ _
   | exact ih2 _ _ _ _ _ _ _
   | exact LeO.none _
   | refine LeO.ite ?_ ?_
   | refine LeO.bind ?_ (fun _ => ?_)
theorem impl_Net_parts.mono : ∀ a0 a1 k, LeO (impl_Net_parts.f k a0 a1) (impl_Net_parts.f (k + 1) a0 a1) := by
 intro a0 a1 k
 obtain ⟨ih0, ih1, ih2⟩ := impl_Net_parts.mono_l k
 unfold impl_Net_parts.f
 repeat' first
   | (with_reducible exact ih0 _ _ _ _ _)
   | (with_reducible exact ih1 _ _ _ _)
   | (with_reducible exact ih2 _ _ _ _ _ _ _)
   | (with_reducible exact LeO.refl _)
   | (with_reducible exact LeO.none _)
   | (with_reducible refine LeO.ite ?_ ?_)
   | (with_reducible refine LeO.bind ?_ (fun _ => ?_))
   | exact ih0 _ _ _ _ _
   | exact ih1 _ _ _ _
   | exact ih2 _ _ _ _ _ _ _
   | exact LeO.none _
   | refine LeO.ite ?_ ?_
   | refine LeO.bind ?_ (fun _ => ?_)
def impl_Net_parts.T13 : Bool × List (List Nat × List Nat) := (true, [([], []), ([], []), ([1], [1]), ([0, 2], [0, 2]), ([3], [3]), ([], []), ([], []), ([6], [6]), ([5, 7], [5, 7]), ([8], [8]), ([4, 9], [4, 9]), ([10, 0, 1, 2, 3, 4, 5, 6, 7, 8, 9, 10], [10])])
def impl_Net_parts.B13 : List Nat := [0, 0, 2, 7, 15, 0, 0, 64, 224, 480, 1023, 2047]
theorem impl_Net_parts.tab13 : rtab .any (opsOf Try.f75 13) = impl_Net_parts.T13 := by kernel_rfl
theorem impl_Net_parts.bits13 : waitsOk impl_Net_parts.T13.2 impl_Net_parts.B13 = true := by kernel_rfl
def impl_Net_parts.T14 : Bool × List (List Nat × List Nat) := (true, [([], []), ([], []), ([1], [1]), ([0, 2], [0, 2]), ([3], [3]), ([], []), ([], []), ([6], [6]), ([5, 7], [5, 7]), ([8], [8]), ([4, 9], [4, 9])])
def impl_Net_parts.B14 : List Nat := [0, 0, 2, 7, 15, 0, 0, 64, 224, 480, 1023]
theorem impl_Net_parts.tab14 : rtab .any (opsOf Try.f75 14) = impl_Net_parts.T14 := by kernel_rfl
theorem impl_Net_parts.bits14 : waitsOk impl_Net_parts.T14.2 impl_Net_parts.B14 = true := by kernel_rfl
def impl_Net_parts.T15 : Bool × List (List Nat × List Nat) := (true, [([], []), ([], []), ([1], [1]), ([], []), ([], []), ([4], [4]), ([], []), ([], []), ([0, 2, 0, 1, 2, 6], [0, 2]), ([8, 6, 0, 1, 2, 6], [6, 8]), ([3, 5, 0, 1, 2, 3, 4, 5, 6, 7, 8, 9], [3, 5]), ([10, 7, 9, 0, 1, 2, 3, 4, 5, 6, 7, 8, 9], [7, 10])])
def impl_Net_parts.B15 : List Nat := [0, 0, 2, 0, 0, 16, 0, 0, 71, 327, 1023, 2047]
theorem impl_Net_parts.tab15 : rtab .any (opsOf Try.f75 15) = impl_Net_parts.T15 := by kernel_rfl
theorem impl_Net_parts.bits15 : waitsOk impl_Net_parts.T15.2 impl_Net_parts.B15 = true := by kernel_rfl
set_option maxHeartbeats 8000000 in
set_option maxRecDepth 100000 in
theorem impl_Net_parts.calls (k : Nat) (a0_0 : Int) (A0_1 : Option Addr) (c0_1 : Nat) (l0_1 : List (S63)) (r : List Int) (w : World) (hr0_1 : Kd.C k63 w A0_1 l0_1.length l0_1) (hc0_1 : l0_1.length ≤ c0_1) (h : impl_Net_parts.f k a0_0 l0_1 = some r) :
  Calls Try.prog 75 #[.agg #[.int .i64 a0_0, .slice A0_1 l0_1.length c0_1]] w fun e w' => ∃ v0_ : Value, e = .returned (v0_) ∧ Kd.R (Kd.int .i64) 3 w' w.heap.size (fun _ => True) v0_ r ∧ Below w.heap.size w w' := by
 have hu29 := Try.underlying29
 have hu63 := Try.underlying63
 have HR0_1 := Aside0.mk hr0_1
 have HC0_1 := Aside0.mk hc0_1
 clear hr0_1 hc0_1
 have HB := Aside0.mk (Below.refl w.heap.size w)
 have H : (impl_Net_parts.l0 k (([] : List Int)) a0_0 0 a0_0 l0_1) = some r := h
 clear h
 obtain ⟨y204, hy204⟩ : ∃ y_ : List Int, y_ = (([] : List Int)) := ⟨_, rfl⟩
 replace H : (impl_Net_parts.l0 k y204 a0_0 0 a0_0 l0_1) = some r := by first | (rw [hy204]; with_reducible exact H) | (have H2_ := (Option.bind_some _ _).symm.trans H; rw [hy204]; with_reducible exact H2_) | (have H2_ := (Option.bind_some _ _).symm.trans H; with_reducible exact H2_) | with_reducible exact H | (rw [hy204]; exact H) | exact H
 have Ny204 := Aside0.mk hy204
 clear hy204
 have H' := Aside0.mk H
 clear H
 go_enter Try.func75, Try.ntmps75
 go_wp2_with (first | ((with_reducible refine gate_dst (N := 1) rfl ?_); refine G.be 1 #[.int .i64 a0_0, .slice A0_1 l0_1.length c0_1] 29 ?_; intro gb203 hg w2 hbox hb; have n0_ := Aside0.mk (below_step (G.cB HB.out) hb); have n1_ := Aside0.mk (hbox); have n2_ := Aside0.mk ((c8_6 : w.heap.size ≤ gb203)); have n3_ := Aside0.mk ((c8_6 : w.heap.size ≤ gb203)); clear HB; revert n0_ n1_ n2_ n3_; intro HB BK203 GW203 GE203; clear hb hbox hg) | ((with_reducible refine gate_dst (N := 9) rfl ?_); refine Kd.R_lit (Kd.int .i64) _ 3 ?hg (N := 9) ?hd (xs := ([] : List Int)) (inner := []) (ok := fun _ => True) (okp := fun _ => True) ?hr ?hp (fun _ hk => hk) trivial (Below.refl _ _) (Nat.le_refl _) (by simp) ?_; (case hd => rfl); (case hg => rfl); (case hr => first | (go_simp; done) | (go_simp; rfl)); (case hp => exact (Reps.none _ _)); intro v205 w3 ho4 hb hg_ hnew_; clear hg_ hnew_; (first | rw [← Ny204.out] at ho4 | (simp only [Int.reduceToNat] at ho4; rw [← Ny204.out] at ho4)); have n0_ := Aside0.mk (Kd.R_lower ho4 (below_size (G.cB HB.out))); have n1_ := Aside0.mk (blk_below (g := gb203) (o := .cells #[.int .i64 a0_0, .slice A0_1 l0_1.length c0_1] 29 (0, 0)) (G.cb BK203.out) hb); have n2_ := Aside0.mk (below_step (G.cB HB.out) hb); clear BK203 HB; revert n0_ n1_ n2_; intro HO206 BK203 HB; clear hb ho4; have hcz5_0 : w3.cell? ⟨gb203, 0, none⟩ = some (.int .i64 a0_0) := (blk_cell BK203.out 0).trans rfl; have hcz5_1 : w3.cell? ⟨gb203, 1, none⟩ = some (.slice A0_1 l0_1.length c0_1) := (blk_cell BK203.out 1).trans rfl; have hfz5_0 := blk_frozen BK203.out 0; have hfz5_1 := blk_frozen BK203.out 1))
 go_loopg [3, 12] k (fun kq v3 v12 w' => ∃ (x3_1 : List Int) (x12_1 : Int), v12 = .int .i64 x12_1 ∧ Aside0 (impl_Net_parts.l0 kq x3_1 a0_0 x12_1 a0_0 l0_1 = some r) ∧ Aside0 (kq ≤ k) ∧ Aside0 (Kd.R (Kd.int .i64) 3 w' w.heap.size (fun _ => True) v3 x3_1) ∧ Aside0 (w'.heap[gb203]? = some (.cells #[.int .i64 a0_0, (.slice A0_1 l0_1.length c0_1)] 29 (0, 0))) ∧ Aside0 (Below w.heap.size w w'))
 case atStart => exact ⟨(y204), (0), (c8_5), H', ⟨Nat.le_refl _⟩, ⟨G.cR HO206.out⟩, ⟨G.cb BK203.out⟩, ⟨G.cB HB.out⟩⟩
 case round =>
  clear H'
  (try clear p2); (try clear hcz5_0); (try clear hcz5_1); (try clear hfz5_0); (try clear hfz5_1)
  obtain ⟨x3_1, x12_1, rfl, HA, HK1, HO_3, BK203, HB⟩ := hrel
  cases gk with
  | zero => exact absurd HA.out (by simp [impl_Net_parts.l0])
  | succ k1 =>
   have H := HA.out
   clear HA
   simp only [impl_Net_parts.l0] at H
   by_cases c6 : x12_1 < a0_0
   ·rw [if_pos c6] at H
    have c6b0 : decide (x12_1 < a0_0) = true := decide_eq_true c6
    clear c6
    by_cases c7 : x3_1.length < 17592186044416
    ·rw [if_pos c7] at H
     have LMc7 := Aside0.mk c7
     clear c7
     obtain ⟨y207, hy207⟩ : ∃ y_ : List Int, y_ = (x3_1 ++ [x12_1]) := ⟨_, rfl⟩
     replace H : (impl_Net_parts.l0 k1 y207 a0_0 (wrap64 (x12_1 + 1)) a0_0 l0_1) = some r := by first | (rw [hy207]; with_reducible exact H) | (have H2_ := (Option.bind_some _ _).symm.trans H; rw [hy207]; with_reducible exact H2_) | (have H2_ := (Option.bind_some _ _).symm.trans H; with_reducible exact H2_) | with_reducible exact H | (rw [hy207]; exact H) | exact H
     have Ny207 := Aside0.mk hy207
     clear hy207
     have H' := Aside0.mk H
     clear H
     go_wp2_with (first | ((with_reducible refine gate_builtin (b := .append) (xs := #[.tmp 15, .tmp 17]) rfl ?_); at_builtin; refine Kd.R_append (Kd.int .i64) (w0 := w) w.heap.size rfl (.tmp 15) (.tmp 17) 33 3 (.int .i64 0) 8 rfl Try.underlying33 info3 rfl (by decide) (by omega) u3 x3_1 x12_1 [.int .i64 x12_1] (fun _ => True) (fun _ => False) rfl rfl ?aP (fun _ hk => hk.elim) ?aF ?aO ?aB ?aS ?aL ?_; (case aP => exact rfl); (case aB => exact (G.cB HB.out)); (case aF => exact (fun _ _ => trivial)); (case aO => exact (G.cR HO_3.out)); (case aS => exact (below_size (G.cB HB.out))); (case aL => have := LMc7.out; omega); intro v208 w8 ho hb hg hat; rw [← Ny207.out] at ho; have n0_ := Aside0.mk (blk_grown (g := gb203) (o := .cells #[.int .i64 a0_0, .slice A0_1 l0_1.length c0_1] 29 (0, 0)) (G.cb BK203.out) hg (Kd.R_ne HO_3.out BK203.out (by decide))); have n1_ := Aside0.mk (hb); have n2_ := Aside0.mk (ho); clear BK203 HB HO_3; revert n0_ n1_ n2_; intro BK203 HB HO209; clear ho hb hg hat))
     go_roundg k1
     case measure => have := HK1.out; omega
     case rel => exact ⟨(y207), (wrap64 (x12_1 + 1)), (c8_5), H', ⟨by have := HK1.out; omega⟩, ⟨G.cR HO209.out⟩, ⟨G.cb BK203.out⟩, ⟨G.cB HB.out⟩⟩
    ·rw [if_neg c7] at H
     exact absurd H (by simp)
   ·rw [if_neg c6] at H
    have c6b0 : decide (x12_1 < a0_0) = false := decide_eq_false c6
    clear c6
    have H' := Aside0.mk H
    clear H
    go_wp2
    go_loopg [5] k1 (fun kq v5 w' => ∃ (x3_2 : List Int) (x5_2 : Bool), v5 = .bool x5_2 ∧ Aside0 (impl_Net_parts.l1 kq x3_2 x5_2 a0_0 l0_1 = some r) ∧ Aside0 (kq ≤ k1) ∧ Aside0 (Kd.R (Kd.int .i64) 3 w' w.heap.size (fun _ => True) u3 x3_2) ∧ Aside0 (w'.heap[gb203]? = some (.cells #[.int .i64 a0_0, (.slice A0_1 l0_1.length c0_1)] 29 (0, 0))) ∧ Aside0 (Below w.heap.size w w'))
    case atStart => exact ⟨(x3_1), (true), (c8_5), H', ⟨Nat.le_refl _⟩, ⟨G.cR HO_3.out⟩, ⟨G.cb BK203.out⟩, ⟨G.cB HB.out⟩⟩
    case round =>
     clear H'
     (try clear p2); (try clear c6); (try clear c6b0); (try clear p6); (try clear c7); (try clear hcz5_0); (try clear hcz5_1); (try clear hfz5_0); (try clear hfz5_1); (try clear p2)
     obtain ⟨x3_2, x5_2, rfl, HA, HK2, HO_3, BK203, HB⟩ := hrel
     cases gk with
     | zero => exact absurd HA.out (by simp [impl_Net_parts.l1])
     | succ k2 =>
      have H := HA.out
      clear HA
      simp only [impl_Net_parts.l1] at H
      by_cases c9 : x5_2 = true
      ·subst c9
       have H1 : (impl_Net_parts.l2 k2 x3_2 false l0_1 (l0_1.length : Int) 0 a0_0 l0_1) = some r := by rw [if_pos rfl] at H; exact H
       clear H
       have H := H1
       clear H1
       have H' := Aside0.mk H
       clear H
       have hcz10_0 : wr.cell? ⟨gb203, 0, none⟩ = some (.int .i64 a0_0) := (blk_cell BK203.out 0).trans rfl
       have hcz10_1 : wr.cell? ⟨gb203, 1, none⟩ = some (.slice A0_1 l0_1.length c0_1) := (blk_cell BK203.out 1).trans rfl
       have hfz10_0 := blk_frozen BK203.out 0
       have hfz10_1 := blk_frozen BK203.out 1
       go_wp2
       go_loopg [5, 24] k2 (fun kq v5 v24 w' => ∃ (x3_3 : List Int) (x5_3 : Bool) (x24_3 : Int), v5 = .bool x5_3 ∧ v24 = .int .i64 x24_3 ∧ Aside0 (impl_Net_parts.l2 kq x3_3 x5_3 l0_1 (l0_1.length : Int) x24_3 a0_0 l0_1 = some r) ∧ Aside0 (kq ≤ k2) ∧ Aside0 (Kd.R (Kd.int .i64) 3 w' w.heap.size (fun _ => True) u3 x3_3) ∧ Aside0 (w'.heap[gb203]? = some (.cells #[.int .i64 a0_0, (.slice A0_1 l0_1.length c0_1)] 29 (0, 0))) ∧ Aside0 (Below w.heap.size w w'))
       case atStart => exact ⟨(x3_2), (false), (0), (c8_5), (c8_5), H', ⟨Nat.le_refl _⟩, ⟨G.cR HO_3.out⟩, ⟨G.cb BK203.out⟩, ⟨G.cB HB.out⟩⟩
       case round =>
        clear H'
        (try clear p2); (try clear c6); (try clear c6b0); (try clear p6); (try clear c7); (try clear c9); (try clear hcz10_0); (try clear hcz10_1); (try clear hcz5_0); (try clear hcz5_1); (try clear hfz10_0); (try clear hfz10_1); (try clear hfz5_0); (try clear hfz5_1); (try clear p2); (try clear p6)
        obtain ⟨x3_3, x5_3, x24_3, rfl, rfl, HA, HK3, HO_3, BK203, HB⟩ := hrel
        cases gk with
        | zero => exact absurd HA.out (by simp [impl_Net_parts.l2])
        | succ k3 =>
         have H := HA.out
         clear HA
         simp only [impl_Net_parts.l2] at H
         by_cases c11 : x24_3 < (l0_1.length : Int)
         ·rw [if_pos c11] at H
          have c11b0 : decide (x24_3 < (l0_1.length : Int)) = true := decide_eq_true c11
          clear c11
          by_cases c12 : 0 ≤ x24_3
          ·rw [if_pos c12] at H
           have c12b0 : decide (0 ≤ x24_3) = true := decide_eq_true c12
           clear c12
           by_cases c13 : x24_3 < (l0_1.length : Int)
           ·rw [if_pos c13] at H
            have c13b0 : decide (x24_3 < (l0_1.length : Int)) = true := decide_eq_true c13
            clear c13
            by_cases c14 : 0 ≤ ((rd_T63 l0_1 x24_3).f0)
            ·rw [if_pos c14] at H
             have c14b0 : decide (0 ≤ ((rd_T63 l0_1 x24_3).f0)) = true := decide_eq_true c14
             clear c14
             by_cases c15 : ((rd_T63 l0_1 x24_3).f0) < (x3_3.length : Int)
             ·rw [if_pos c15] at H
              have c15b0 : decide (((rd_T63 l0_1 x24_3).f0) < (x3_3.length : Int)) = true := decide_eq_true c15
              clear c15
              by_cases c16 : 0 ≤ ((rd_T63 l0_1 x24_3).f1)
              ·rw [if_pos c16] at H
               have c16b0 : decide (0 ≤ ((rd_T63 l0_1 x24_3).f1)) = true := decide_eq_true c16
               clear c16
               by_cases c17 : ((rd_T63 l0_1 x24_3).f1) < (x3_3.length : Int)
               ·rw [if_pos c17] at H
                have c17b0 : decide (((rd_T63 l0_1 x24_3).f1) < (x3_3.length : Int)) = true := decide_eq_true c17
                clear c17
                obtain ⟨ji18, hji18⟩ : ∃ j_ : Int, (mn (rd x3_3 ((rd_T63 l0_1 x24_3).f0)) (rd x3_3 ((rd_T63 l0_1 x24_3).f1))) = j_ := ⟨_, rfl⟩
                replace H : (if (rd x3_3 ((rd_T63 l0_1 x24_3).f0)) = (rd x3_3 ((rd_T63 l0_1 x24_3).f1)) then (impl_Net_parts.l2 k3 x3_3 x5_3 l0_1 (l0_1.length : Int) (wrap64 (x24_3 + 1)) a0_0 l0_1) else (impl_Net_parts.l2 k3 ((x3_3.set (((rd_T63 l0_1 x24_3).f0) : Int).toNat (ji18)).set (((rd_T63 l0_1 x24_3).f1) : Int).toNat (ji18)) true l0_1 (l0_1.length : Int) (wrap64 (x24_3 + 1)) a0_0 l0_1)) = some r := by first | (rw [hji18] at H; exact H) | (simp only [hji18] at H ⊢; exact H)
                have hji18_ : (if (rd x3_3 ((rd_T63 l0_1 x24_3).f1)) < (rd x3_3 ((rd_T63 l0_1 x24_3).f0)) then (rd x3_3 ((rd_T63 l0_1 x24_3).f1)) else (rd x3_3 ((rd_T63 l0_1 x24_3).f0))) = ji18 := hji18
                by_cases c19 : (rd x3_3 ((rd_T63 l0_1 x24_3).f0)) = (rd x3_3 ((rd_T63 l0_1 x24_3).f1))
                ·rw [if_pos c19] at H
                 have c19b0 : ((rd x3_3 ((rd_T63 l0_1 x24_3).f0)) == (rd x3_3 ((rd_T63 l0_1 x24_3).f1))) = true := beq_iff_eq.mpr c19
                 have c19b1 : ((rd x3_3 ((rd_T63 l0_1 x24_3).f0)) != (rd x3_3 ((rd_T63 l0_1 x24_3).f1))) = false := bne_eq_false_iff_eq.mpr c19
                 clear c19
                 have H' := Aside0.mk H
                 clear H
                 have p210 : 0 ≤ (x24_3 : Int) := of_decide_eq_true (G.asm)
                 have q210 : x24_3 < (l0_1.length : Int) := of_decide_eq_true (G.asm)
                 obtain ⟨ad210, e210, hx210_0, hx210_1⟩ := at_T63 HR0_1.out x24_3 p210 q210
                 cases e210
                 replace hx210_0 := (HB.out.cell (World.block_lt_of_cell? w _ hx210_0)).trans hx210_0
                 replace hx210_1 := (HB.out.cell (World.block_lt_of_cell? w _ hx210_1)).trans hx210_1
                 replace p210 := eq_true p210
                 replace q210 := eq_true q210
                 try go_wp2_with (first | ((with_reducible refine gate_dst (N := 7) rfl ?_); refine G.be 7 #[.int .i64 0, .int .i64 0] 63 ?_; intro gb211 hg w20 hbox hb; have n0_ := Aside0.mk (Kd.R_below (G.cR HO_3.out) hb); have n1_ := Aside0.mk (blk_below (g := gb203) (o := .cells #[.int .i64 a0_0, .slice (some ad210) l0_1.length c0_1] 29 (0, 0)) (G.cb BK203.out) hb); have n2_ := Aside0.mk (below_step (G.cB HB.out) hb); have n3_ := Aside0.mk (hbox); have n4_ := Aside0.mk ((c8_6 : w.heap.size ≤ gb211)); have n5_ := Aside0.mk ((c8_6 : w.heap.size ≤ gb211)); have n6_ := Aside0.mk ((c8_3 : gb203 ≠ gb211)); have n7_ := Aside0.mk ((c8_4 : gb211 ≠ gb203)); clear HO_3 BK203 HB; revert n0_ n1_ n2_ n3_ n4_ n5_ n6_ n7_; intro HO_3 BK203 HB BK211 GW211 GE211 NB203_211 NB211_203; clear hb hbox hg; have hnb21 := NB211_203.out; have hnc21 := NB203_211.out; have hcz22_0 : w20.cell? ⟨gb211, 0, none⟩ = some (.int .i64 0) := (blk_cell BK211.out 0).trans rfl; have hcz22_1 : w20.cell? ⟨gb211, 1, none⟩ = some (.int .i64 0) := (blk_cell BK211.out 1).trans rfl; have hfz22_0 := blk_frozen BK211.out 0; have hfz22_1 := blk_frozen BK211.out 1))
                 have n0_ : Aside0 (Kd.R (Kd.int .i64) 3 ((w20.setCell ⟨gb211, 0, none⟩ (.int .i64 ((rd_T63 l0_1 x24_3).f0))).setCell ⟨gb211, 1, none⟩ (.int .i64 ((rd_T63 l0_1 x24_3).f1))) w.heap.size (fun _ => True) u3 x3_3) := ⟨c8_2⟩
                 have n1_ : Aside0 (((w20.setCell ⟨gb211, 0, none⟩ (.int .i64 ((rd_T63 l0_1 x24_3).f0))).setCell ⟨gb211, 1, none⟩ (.int .i64 ((rd_T63 l0_1 x24_3).f1))).heap[gb203]? = some (.cells #[.int .i64 a0_0, .slice (some ad210) l0_1.length c0_1] 29 (0, 0))) := ⟨c8_1⟩
                 have n2_ : Aside0 (((w20.setCell ⟨gb211, 0, none⟩ (.int .i64 ((rd_T63 l0_1 x24_3).f0))).setCell ⟨gb211, 1, none⟩ (.int .i64 ((rd_T63 l0_1 x24_3).f1))).heap[gb211]? = some (.cells #[.int .i64 ((rd_T63 l0_1 x24_3).f0), .int .i64 ((rd_T63 l0_1 x24_3).f1)] 63 (0, 0))) := ⟨c8_0⟩
                 have n3_ : Aside0 (Below w.heap.size w ((w20.setCell ⟨gb211, 0, none⟩ (.int .i64 ((rd_T63 l0_1 x24_3).f0))).setCell ⟨gb211, 1, none⟩ (.int .i64 ((rd_T63 l0_1 x24_3).f1)))) := ⟨G.cB HB.out⟩
                 (try clear HO_3)
                 (try clear BK203)
                 (try clear BK211)
                 (try clear HB)
                 generalize ((w20.setCell ⟨gb211, 0, none⟩ (.int .i64 ((rd_T63 l0_1 x24_3).f0))).setCell ⟨gb211, 1, none⟩ (.int .i64 ((rd_T63 l0_1 x24_3).f1))) = w23 at n0_ n1_ n2_ n3_ ⊢
                 revert n0_ n1_ n2_ n3_
                 intro HO_3 BK203 BK211 HB
                 have n0_ := Aside0.mk (Kd.R_drew HO_3.out)
                 have n1_ := Aside0.mk (blk_drew BK203.out)
                 have n2_ := Aside0.mk (blk_drew BK211.out)
                 have n3_ := Aside0.mk (below_drew1 HB.out)
                 clear HO_3 BK203 BK211 HB
                 revert n0_ n1_ n2_ n3_
                 intro HO_3 BK203 BK211 HB
                 obtain ⟨Ao25, co25, eo25⟩ := Kd.R_slice HO_3.out
                 (first | subst eo25 | (injection eo25 with f1_ f2_ f3_; have f4_ := f1_.symm; have f5_ := f3_.symm; clear f1_ f2_ f3_; subst f4_; subst f5_))
                 have p212 : 0 ≤ (((rd_T63 l0_1 x24_3).f0) : Int) := of_decide_eq_true (G.asm)
                 have q212 : ((rd_T63 l0_1 x24_3).f0) < (x3_3.length : Int) := of_decide_eq_true (G.asm)
                 obtain ⟨ad212, e212, hx212_0⟩ := Kd.at_int (Kd.R_reads' HO_3.out).2.2 ((rd_T63 l0_1 x24_3).f0) p212 q212
                 cases e212
                 replace p212 := eq_true p212
                 replace q212 := eq_true q212
                 have p213 : 0 ≤ (((rd_T63 l0_1 x24_3).f1) : Int) := of_decide_eq_true (G.asm)
                 have q213 : ((rd_T63 l0_1 x24_3).f1) < (x3_3.length : Int) := of_decide_eq_true (G.asm)
                 obtain ⟨ad213, e213, hx213_0⟩ := Kd.at_int (Kd.R_reads' HO_3.out).2.2 ((rd_T63 l0_1 x24_3).f1) p213 q213
                 obtain rfl : ad212 = ad213 := (by injection e213)
                 replace p213 := eq_true p213
                 replace q213 := eq_true q213
                 refine start_ (n := 12) (S := fun w' => w'.cell? ⟨gb211, 0, none⟩ = some (.int .i64 ((rd_T63 l0_1 x24_3).f0)) ∧ w'.cell? ⟨gb211, 1, none⟩ = some (.int .i64 ((rd_T63 l0_1 x24_3).f1)) ∧ w'.cell? (ad212.add (((rd_T63 l0_1 x24_3).f0)).toNat) = some (.int .i64 (rd x3_3 ((rd_T63 l0_1 x24_3).f0))) ∧ w'.cell? (ad212.add (((rd_T63 l0_1 x24_3).f1)).toNat) = some (.int .i64 (rd x3_3 ((rd_T63 l0_1 x24_3).f1)))) (ds := []) (G.fl 12 0) (by kernel_rfl) rfl (by kernel_rfl) ⟨(blk_cell BK211.out 0).trans rfl, (blk_cell BK211.out 1).trans rfl, hx212_0, hx213_0⟩ (fun hHeld => ?_); refine with_tabW impl_Net_parts.tab13 impl_Net_parts.bits13 (fun HT_ HW_ => ?_)
                 generalize w23.drew = w24 at HO_3 BK203 BK211 HB hx212_0 hx213_0 hHeld ⊢
                 refine G.pu 0 (some 28) (G.fl 12 1) ?_
                 refine G.pu 1 (some 29) (G.fl 12 3) ?_
                 refine G.pu 5 (some 33) (G.fl 12 35) ?_
                 refine G.pu 6 (some 34) (G.fl 12 99) ?_
                 refine G.ta4 2 (some 30) (G.fl 12 103) ?_
                 refine G.pu 3 (some 31) (G.fl 12 111) ?_
                 refine G.ta4 4 (some 32) (G.fl 12 127) ?_
                 refine G.ta4 7 (some 35) (G.fl 12 255) ?_
                 refine G.pu 8 (some 36) (G.fl 12 511) ?_
                 refine G.ta4 9 (some 37) (G.fl 12 1023) ?_
                 refine G.pu 10 (some 38) (G.fl 12 2047) ?_
                 refine G.pu 11 (some 8) (G.fl 12 4095) ?_
                 refine done_ (done_of HT_.out (by kernel_rfl)) ?_
                 try go_wp2
                 have n0_ := Aside0.mk (Kd.R_drew HO_3.out)
                 have n1_ := Aside0.mk (blk_drew BK203.out)
                 have n2_ := Aside0.mk (blk_drew BK211.out)
                 have n3_ := Aside0.mk (below_drew1 HB.out)
                 clear HO_3 BK203 BK211 HB
                 revert n0_ n1_ n2_ n3_
                 intro HO_3 BK203 BK211 HB
                 have p214 : 0 ≤ (((rd_T63 l0_1 x24_3).f0) : Int) := of_decide_eq_true (G.asm)
                 have q214 : ((rd_T63 l0_1 x24_3).f0) < (x3_3.length : Int) := of_decide_eq_true (G.asm)
                 obtain ⟨ad214, e214, hx214_0⟩ := Kd.at_int (Kd.R_reads' HO_3.out).2.2 ((rd_T63 l0_1 x24_3).f0) p214 q214
                 obtain rfl : ad212 = ad214 := (by injection e214)
                 replace p214 := eq_true p214
                 replace q214 := eq_true q214
                 have p215 : 0 ≤ (((rd_T63 l0_1 x24_3).f1) : Int) := of_decide_eq_true (G.asm)
                 have q215 : ((rd_T63 l0_1 x24_3).f1) < (x3_3.length : Int) := of_decide_eq_true (G.asm)
                 obtain ⟨ad215, e215, hx215_0⟩ := Kd.at_int (Kd.R_reads' HO_3.out).2.2 ((rd_T63 l0_1 x24_3).f1) p215 q215
                 obtain rfl : ad212 = ad215 := (by injection e215)
                 replace p215 := eq_true p215
                 replace q215 := eq_true q215
                 refine start_ (n := 11) (S := fun w' => w'.cell? ⟨gb211, 0, none⟩ = some (.int .i64 ((rd_T63 l0_1 x24_3).f0)) ∧ w'.cell? ⟨gb211, 1, none⟩ = some (.int .i64 ((rd_T63 l0_1 x24_3).f1)) ∧ w'.cell? (ad212.add (((rd_T63 l0_1 x24_3).f0)).toNat) = some (.int .i64 (rd x3_3 ((rd_T63 l0_1 x24_3).f0))) ∧ w'.cell? (ad212.add (((rd_T63 l0_1 x24_3).f1)).toNat) = some (.int .i64 (rd x3_3 ((rd_T63 l0_1 x24_3).f1)))) (ds := []) (G.fl 11 0) (by kernel_rfl) rfl (by kernel_rfl) ⟨(blk_cell BK211.out 0).trans rfl, (blk_cell BK211.out 1).trans rfl, hx214_0, hx215_0⟩ (fun hHeld => ?_); refine with_tabW impl_Net_parts.tab14 impl_Net_parts.bits14 (fun HT_ HW_ => ?_)
                 generalize w24.drew = w26 at HO_3 BK203 BK211 HB hx214_0 hx215_0 hHeld ⊢
                 refine G.pu 0 (some 39) (G.fl 11 1) ?_
                 refine G.pu 1 (some 40) (G.fl 11 3) ?_
                 refine G.pu 5 (some 44) (G.fl 11 35) ?_
                 refine G.pu 6 (some 45) (G.fl 11 99) ?_
                 refine G.ta4 2 (some 41) (G.fl 11 103) ?_
                 refine G.pu 3 (some 42) (G.fl 11 111) ?_
                 refine G.ta4 4 (some 43) (G.fl 11 127) ?_
                 refine G.ta4 7 (some 46) (G.fl 11 255) ?_
                 refine G.pu 8 (some 47) (G.fl 11 511) ?_
                 refine G.ta4 9 (some 48) (G.fl 11 1023) ?_
                 refine G.pu 10 (some 49) (G.fl 11 2047) ?_
                 refine done_ (done_of HT_.out (by kernel_rfl)) ?_
                 try go_wp2
                 go_roundg k3
                 case measure => have := HK1.out; have := HK2.out; have := HK3.out; omega
                 case rel => exact ⟨(x3_3), (x5_3), (wrap64 (x24_3 + 1)), (c8_5), (c8_5), H', ⟨by have := HK1.out; have := HK2.out; have := HK3.out; omega⟩, ⟨G.cR HO_3.out⟩, ⟨G.cb BK203.out⟩, ⟨G.cB HB.out⟩⟩
                ·rw [if_neg c19] at H
                 have c19b0 : ((rd x3_3 ((rd_T63 l0_1 x24_3).f0)) == (rd x3_3 ((rd_T63 l0_1 x24_3).f1))) = false := beq_eq_false_iff_ne.mpr c19
                 have c19b1 : ((rd x3_3 ((rd_T63 l0_1 x24_3).f0)) != (rd x3_3 ((rd_T63 l0_1 x24_3).f1))) = true := bne_iff_ne.mpr c19
                 obtain ⟨y216, hy216⟩ : ∃ y_ : List Int, y_ = (x3_3.set (((rd_T63 l0_1 x24_3).f0) : Int).toNat (ji18)) := ⟨_, rfl⟩
                 replace H : (impl_Net_parts.l2 k3 (y216.set (((rd_T63 l0_1 x24_3).f1) : Int).toNat (ji18)) true l0_1 (l0_1.length : Int) (wrap64 (x24_3 + 1)) a0_0 l0_1) = some r := by first | (rw [hy216]; with_reducible exact H) | (have H2_ := (Option.bind_some _ _).symm.trans H; rw [hy216]; with_reducible exact H2_) | (have H2_ := (Option.bind_some _ _).symm.trans H; with_reducible exact H2_) | with_reducible exact H | (rw [hy216]; exact H) | exact H
                 have Ny216 := Aside0.mk hy216
                 clear hy216
                 obtain ⟨y217, hy217⟩ : ∃ y_ : List Int, y_ = (y216.set (((rd_T63 l0_1 x24_3).f1) : Int).toNat (ji18)) := ⟨_, rfl⟩
                 replace H : (impl_Net_parts.l2 k3 y217 true l0_1 (l0_1.length : Int) (wrap64 (x24_3 + 1)) a0_0 l0_1) = some r := by first | (rw [hy217]; with_reducible exact H) | (have H2_ := (Option.bind_some _ _).symm.trans H; rw [hy217]; with_reducible exact H2_) | (have H2_ := (Option.bind_some _ _).symm.trans H; with_reducible exact H2_) | with_reducible exact H | (rw [hy217]; exact H) | exact H
                 have Ny217 := Aside0.mk hy217
                 clear hy217
                 have H' := Aside0.mk H
                 clear H
                 have p210 : 0 ≤ (x24_3 : Int) := of_decide_eq_true (G.asm)
                 have q210 : x24_3 < (l0_1.length : Int) := of_decide_eq_true (G.asm)
                 obtain ⟨ad210, e210, hx210_0, hx210_1⟩ := at_T63 HR0_1.out x24_3 p210 q210
                 cases e210
                 replace hx210_0 := (HB.out.cell (World.block_lt_of_cell? w _ hx210_0)).trans hx210_0
                 replace hx210_1 := (HB.out.cell (World.block_lt_of_cell? w _ hx210_1)).trans hx210_1
                 replace p210 := eq_true p210
                 replace q210 := eq_true q210
                 try go_wp2_with (first | ((with_reducible refine gate_dst (N := 7) rfl ?_); refine G.be 7 #[.int .i64 0, .int .i64 0] 63 ?_; intro gb211 hg w29 hbox hb; have n0_ := Aside0.mk (Kd.R_below (G.cR HO_3.out) hb); have n1_ := Aside0.mk (blk_below (g := gb203) (o := .cells #[.int .i64 a0_0, .slice (some ad210) l0_1.length c0_1] 29 (0, 0)) (G.cb BK203.out) hb); have n2_ := Aside0.mk (below_step (G.cB HB.out) hb); have n3_ := Aside0.mk (hbox); have n4_ := Aside0.mk ((c8_6 : w.heap.size ≤ gb211)); have n5_ := Aside0.mk ((c8_6 : w.heap.size ≤ gb211)); have n6_ := Aside0.mk ((c8_3 : gb203 ≠ gb211)); have n7_ := Aside0.mk ((c8_4 : gb211 ≠ gb203)); clear HO_3 BK203 HB; revert n0_ n1_ n2_ n3_ n4_ n5_ n6_ n7_; intro HO_3 BK203 HB BK211 GW211 GE211 NB203_211 NB211_203; clear hb hbox hg; have hnb30 := NB211_203.out; have hnc30 := NB203_211.out; have hcz31_0 : w29.cell? ⟨gb211, 0, none⟩ = some (.int .i64 0) := (blk_cell BK211.out 0).trans rfl; have hcz31_1 : w29.cell? ⟨gb211, 1, none⟩ = some (.int .i64 0) := (blk_cell BK211.out 1).trans rfl; have hfz31_0 := blk_frozen BK211.out 0; have hfz31_1 := blk_frozen BK211.out 1))
                 have n0_ : Aside0 (Kd.R (Kd.int .i64) 3 ((w29.setCell ⟨gb211, 0, none⟩ (.int .i64 ((rd_T63 l0_1 x24_3).f0))).setCell ⟨gb211, 1, none⟩ (.int .i64 ((rd_T63 l0_1 x24_3).f1))) w.heap.size (fun _ => True) u3 x3_3) := ⟨c8_2⟩
                 have n1_ : Aside0 (((w29.setCell ⟨gb211, 0, none⟩ (.int .i64 ((rd_T63 l0_1 x24_3).f0))).setCell ⟨gb211, 1, none⟩ (.int .i64 ((rd_T63 l0_1 x24_3).f1))).heap[gb203]? = some (.cells #[.int .i64 a0_0, .slice (some ad210) l0_1.length c0_1] 29 (0, 0))) := ⟨c8_1⟩
                 have n2_ : Aside0 (((w29.setCell ⟨gb211, 0, none⟩ (.int .i64 ((rd_T63 l0_1 x24_3).f0))).setCell ⟨gb211, 1, none⟩ (.int .i64 ((rd_T63 l0_1 x24_3).f1))).heap[gb211]? = some (.cells #[.int .i64 ((rd_T63 l0_1 x24_3).f0), .int .i64 ((rd_T63 l0_1 x24_3).f1)] 63 (0, 0))) := ⟨c8_0⟩
                 have n3_ : Aside0 (Below w.heap.size w ((w29.setCell ⟨gb211, 0, none⟩ (.int .i64 ((rd_T63 l0_1 x24_3).f0))).setCell ⟨gb211, 1, none⟩ (.int .i64 ((rd_T63 l0_1 x24_3).f1)))) := ⟨G.cB HB.out⟩
                 (try clear HO_3)
                 (try clear BK203)
                 (try clear BK211)
                 (try clear HB)
                 generalize ((w29.setCell ⟨gb211, 0, none⟩ (.int .i64 ((rd_T63 l0_1 x24_3).f0))).setCell ⟨gb211, 1, none⟩ (.int .i64 ((rd_T63 l0_1 x24_3).f1))) = w32 at n0_ n1_ n2_ n3_ ⊢
                 revert n0_ n1_ n2_ n3_
                 intro HO_3 BK203 BK211 HB
                 have n0_ := Aside0.mk (Kd.R_drew HO_3.out)
                 have n1_ := Aside0.mk (blk_drew BK203.out)
                 have n2_ := Aside0.mk (blk_drew BK211.out)
                 have n3_ := Aside0.mk (below_drew1 HB.out)
                 clear HO_3 BK203 BK211 HB
                 revert n0_ n1_ n2_ n3_
                 intro HO_3 BK203 BK211 HB
                 obtain ⟨Ao34, co34, eo34⟩ := Kd.R_slice HO_3.out
                 (first | subst eo34 | (injection eo34 with f1_ f2_ f3_; have f4_ := f1_.symm; have f5_ := f3_.symm; clear f1_ f2_ f3_; subst f4_; subst f5_))
                 have p212 : 0 ≤ (((rd_T63 l0_1 x24_3).f0) : Int) := of_decide_eq_true (G.asm)
                 have q212 : ((rd_T63 l0_1 x24_3).f0) < (x3_3.length : Int) := of_decide_eq_true (G.asm)
                 obtain ⟨ad212, e212, hx212_0⟩ := Kd.at_int (Kd.R_reads' HO_3.out).2.2 ((rd_T63 l0_1 x24_3).f0) p212 q212
                 cases e212
                 replace p212 := eq_true p212
                 replace q212 := eq_true q212
                 have p213 : 0 ≤ (((rd_T63 l0_1 x24_3).f1) : Int) := of_decide_eq_true (G.asm)
                 have q213 : ((rd_T63 l0_1 x24_3).f1) < (x3_3.length : Int) := of_decide_eq_true (G.asm)
                 obtain ⟨ad213, e213, hx213_0⟩ := Kd.at_int (Kd.R_reads' HO_3.out).2.2 ((rd_T63 l0_1 x24_3).f1) p213 q213
                 obtain rfl : ad212 = ad213 := (by injection e213)
                 replace p213 := eq_true p213
                 replace q213 := eq_true q213
                 refine start_ (n := 12) (S := fun w' => w'.cell? ⟨gb211, 0, none⟩ = some (.int .i64 ((rd_T63 l0_1 x24_3).f0)) ∧ w'.cell? ⟨gb211, 1, none⟩ = some (.int .i64 ((rd_T63 l0_1 x24_3).f1)) ∧ w'.cell? (ad212.add (((rd_T63 l0_1 x24_3).f0)).toNat) = some (.int .i64 (rd x3_3 ((rd_T63 l0_1 x24_3).f0))) ∧ w'.cell? (ad212.add (((rd_T63 l0_1 x24_3).f1)).toNat) = some (.int .i64 (rd x3_3 ((rd_T63 l0_1 x24_3).f1)))) (ds := []) (G.fl 12 0) (by kernel_rfl) rfl (by kernel_rfl) ⟨(blk_cell BK211.out 0).trans rfl, (blk_cell BK211.out 1).trans rfl, hx212_0, hx213_0⟩ (fun hHeld => ?_); refine with_tabW impl_Net_parts.tab13 impl_Net_parts.bits13 (fun HT_ HW_ => ?_)
                 generalize w32.drew = w33 at HO_3 BK203 BK211 HB hx212_0 hx213_0 hHeld ⊢
                 refine G.pu 0 (some 28) (G.fl 12 1) ?_
                 refine G.pu 1 (some 29) (G.fl 12 3) ?_
                 refine G.pu 5 (some 33) (G.fl 12 35) ?_
                 refine G.pu 6 (some 34) (G.fl 12 99) ?_
                 refine G.ta4 2 (some 30) (G.fl 12 103) ?_
                 refine G.pu 3 (some 31) (G.fl 12 111) ?_
                 refine G.ta4 4 (some 32) (G.fl 12 127) ?_
                 refine G.ta4 7 (some 35) (G.fl 12 255) ?_
                 refine G.pu 8 (some 36) (G.fl 12 511) ?_
                 refine G.ta4 9 (some 37) (G.fl 12 1023) ?_
                 refine G.pu 10 (some 38) (G.fl 12 2047) ?_
                 refine G.pu 11 (some 8) (G.fl 12 4095) ?_
                 refine done_ (done_of HT_.out (by kernel_rfl)) ?_
                 try go_wp2
                 have n0_ := Aside0.mk (Kd.R_drew HO_3.out)
                 have n1_ := Aside0.mk (blk_drew BK203.out)
                 have n2_ := Aside0.mk (blk_drew BK211.out)
                 have n3_ := Aside0.mk (below_drew1 HB.out)
                 clear HO_3 BK203 BK211 HB
                 revert n0_ n1_ n2_ n3_
                 intro HO_3 BK203 BK211 HB
                 have p214 : 0 ≤ (((rd_T63 l0_1 x24_3).f0) : Int) := of_decide_eq_true (G.asm)
                 have q214 : ((rd_T63 l0_1 x24_3).f0) < (x3_3.length : Int) := of_decide_eq_true (G.asm)
                 obtain ⟨ad214, e214, hx214_0⟩ := Kd.at_int (Kd.R_reads' HO_3.out).2.2 ((rd_T63 l0_1 x24_3).f0) p214 q214
                 obtain rfl : ad212 = ad214 := (by injection e214)
                 replace p214 := eq_true p214
                 replace q214 := eq_true q214
                 have p215 : 0 ≤ (((rd_T63 l0_1 x24_3).f1) : Int) := of_decide_eq_true (G.asm)
                 have q215 : ((rd_T63 l0_1 x24_3).f1) < (x3_3.length : Int) := of_decide_eq_true (G.asm)
                 obtain ⟨ad215, e215, hx215_0⟩ := Kd.at_int (Kd.R_reads' HO_3.out).2.2 ((rd_T63 l0_1 x24_3).f1) p215 q215
                 obtain rfl : ad212 = ad215 := (by injection e215)
                 replace p215 := eq_true p215
                 replace q215 := eq_true q215
                 refine start_ (n := 11) (S := fun w' => w'.cell? ⟨gb211, 0, none⟩ = some (.int .i64 ((rd_T63 l0_1 x24_3).f0)) ∧ w'.cell? ⟨gb211, 1, none⟩ = some (.int .i64 ((rd_T63 l0_1 x24_3).f1)) ∧ w'.cell? (ad212.add (((rd_T63 l0_1 x24_3).f0)).toNat) = some (.int .i64 (rd x3_3 ((rd_T63 l0_1 x24_3).f0))) ∧ w'.cell? (ad212.add (((rd_T63 l0_1 x24_3).f1)).toNat) = some (.int .i64 (rd x3_3 ((rd_T63 l0_1 x24_3).f1)))) (ds := []) (G.fl 11 0) (by kernel_rfl) rfl (by kernel_rfl) ⟨(blk_cell BK211.out 0).trans rfl, (blk_cell BK211.out 1).trans rfl, hx214_0, hx215_0⟩ (fun hHeld => ?_); refine with_tabW impl_Net_parts.tab14 impl_Net_parts.bits14 (fun HT_ HW_ => ?_)
                 generalize w33.drew = w35 at HO_3 BK203 BK211 HB hx214_0 hx215_0 hHeld ⊢
                 refine G.pu 0 (some 39) (G.fl 11 1) ?_
                 refine G.pu 1 (some 40) (G.fl 11 3) ?_
                 refine G.pu 5 (some 44) (G.fl 11 35) ?_
                 refine G.pu 6 (some 45) (G.fl 11 99) ?_
                 refine G.ta4 2 (some 41) (G.fl 11 103) ?_
                 refine G.pu 3 (some 42) (G.fl 11 111) ?_
                 refine G.ta4 4 (some 43) (G.fl 11 127) ?_
                 refine G.ta4 7 (some 46) (G.fl 11 255) ?_
                 refine G.pu 8 (some 47) (G.fl 11 511) ?_
                 refine G.ta4 9 (some 48) (G.fl 11 1023) ?_
                 refine G.pu 10 (some 49) (G.fl 11 2047) ?_
                 refine done_ (done_of HT_.out (by kernel_rfl)) ?_
                 try go_wp2
                 have n0_ := Aside0.mk (Kd.R_drew HO_3.out)
                 have n1_ := Aside0.mk (blk_drew BK203.out)
                 have n2_ := Aside0.mk (blk_drew BK211.out)
                 have n3_ := Aside0.mk (below_drew1 HB.out)
                 clear HO_3 BK203 BK211 HB
                 revert n0_ n1_ n2_ n3_
                 intro HO_3 BK203 BK211 HB
                 have p27 : 0 ≤ (((rd_T63 l0_1 x24_3).f0) : Int) := of_decide_eq_true (G.asm)
                 have q27 : (((rd_T63 l0_1 x24_3).f0) : Int) < ((x3_3.length : Int) : Int) := of_decide_eq_true (G.asm)
                 obtain ⟨go27, co27, eo27, gb27, gl27, cl27, HG27⟩ := Kd.R_form HO_3.out (by omega)
                 (first | cases eo27 | (injection eo27 with ea_ en_ ec_; (first | subst ea_ | (injection ea_ with ea_; subst ea_)); subst ec_; clear en_))
                 have GB27 := Aside0.mk gb27
                 have GG27 := Aside0.mk HG27
                 clear gb27 gl27 HG27
                 (first | simp only [add_plain] at hx212_0 | skip)
                 (first | simp only [add_plain] at hx213_0 | skip)
                 (first | simp only [add_plain] at hx214_0 | skip)
                 (first | simp only [add_plain] at hx215_0 | skip)
                 obtain ⟨hx27_0, hf27_0⟩ := Kd.R_celln 0 HO_3.out (((rd_T63 l0_1 x24_3).f0) : Int) p27 q27
                 replace p27 := eq_true p27
                 replace q27 := eq_true q27
                 have HP37 := Kd.R_putn HO_3.out (((rd_T63 l0_1 x24_3).f0) : Int) ji18
                 rw [← Ny216.out] at HP37
                 have HQ37 := Aside0.mk HP37
                 clear HP37
                 have p28 : 0 ≤ (((rd_T63 l0_1 x24_3).f1) : Int) := of_decide_eq_true (G.asm)
                 have q28 : (((rd_T63 l0_1 x24_3).f1) : Int) < ((x3_3.length : Int) : Int) := of_decide_eq_true (G.asm)
                 obtain ⟨hx28_0, hf28_0⟩ := Kd.R_celln 0 HQ37.out (((rd_T63 l0_1 x24_3).f1) : Int) p28 q28
                 replace p28 := eq_true p28
                 replace q28 := eq_true q28
                 have HP38 := Kd.R_putn HQ37.out (((rd_T63 l0_1 x24_3).f1) : Int) ji18
                 rw [← Ny217.out] at HP38
                 have HQ38 := Aside0.mk HP38
                 clear HP38
                 refine start_ (n := 12) (S := fun w' => w'.cell? ⟨gb211, 0, none⟩ = some (.int .i64 ((rd_T63 l0_1 x24_3).f0)) ∧ w'.cell? ⟨gb211, 1, none⟩ = some (.int .i64 ((rd_T63 l0_1 x24_3).f1))) (ds := [11]) (G.fl 12 0) (by kernel_rfl) rfl (by kernel_rfl) ⟨(blk_cell BK211.out 0).trans rfl, (blk_cell BK211.out 1).trans rfl⟩ (fun hHeld => ?_); refine with_tabW impl_Net_parts.tab15 impl_Net_parts.bits15 (fun HT_ HW_ => ?_)
                 generalize w35.drew = w36 at HO_3 BK203 BK211 HB GG27 HQ37 HQ38 hf27_0 hf28_0 hx212_0 hx213_0 hx214_0 hx215_0 hx27_0 hx28_0 hHeld ⊢
                 refine G.pu 0 (some 50) (G.fl 12 1) ?_
                 refine G.pu 1 (some 51) (G.fl 12 3) ?_
                 refine G.pu 3 (some 53) (G.fl 12 11) ?_
                 refine G.pu 4 (some 54) (G.fl 12 27) ?_
                 refine G.pu 6 (some 56) (G.fl 12 91) ?_
                 refine G.pu 7 (some 57) (G.fl 12 219) ?_
                 refine G.ta2 2 (some 52) (G.fl 12 223) ?_
                 refine G.pu 8 (some 58) (G.fl 12 479) ?_
                 refine G.ta2 5 (some 55) (G.fl 12 511) ?_
                 refine one_ (i := 9) (N := none) (G.fl 12 1023) rfl rfl (one_of HT_.out (by kernel_rfl)) (by decide) (fun K hK => ?_)
                 refine skip_ (w1 := ?_) (by rfl) rfl ?_ ?_
                 rotate_left
                 ·go_simp
                  rfl
                 refine hK.out _ _ ⟨((cell_far (fun e_ => Kd.R_ne HO_3.out BK211.out (by decide) (congrArg some e_)) _).trans (hHeld.1)), ((cell_far (fun e_ => Kd.R_ne HO_3.out BK211.out (by decide) (congrArg some e_)) _).trans (hHeld.2))⟩ (fun hHeld => ?_)
                 clear hK K
                 refine G.pu 10 (some 59) (G.fl 12 2047) ?_
                 refine last_ (i := 11) (N := none) (G.fl 12 4095) rfl rfl (one_of HT_.out (by kernel_rfl)) (by decide) (fun K hK => ?_)
                 refine skip_ (w1 := ?_) (by rfl) rfl ?_ ?_
                 rotate_left
                 ·go_simp
                  rfl
                 refine hK.out _ _ ?_
                 clear hK K
                 refine done_ (done_of HT_.out (by kernel_rfl)) ?_
                 try go_wp2
                 go_roundg k3
                 case measure => have := HK1.out; have := HK2.out; have := HK3.out; omega
                 case rel => exact ⟨(y217), (true), (wrap64 (x24_3 + 1)), (c8_5), (c8_5), H', ⟨by have := HK1.out; have := HK2.out; have := HK3.out; omega⟩, ⟨G.cR HQ38.out⟩, ⟨by (with_reducible repeat (first | refine blk_drewN ?_ _ | refine blk_drew ?_ | refine blk_alloc ?_ _)); refine blk_far ?_ (by have h_ := Kd.R_ne HO_3.out BK203.out (by decide); intro e_; exact h_ (by rw [e_]; rfl)) _; (with_reducible repeat (first | refine blk_drewN ?_ _ | refine blk_drew ?_ | refine blk_alloc ?_ _)); refine blk_far ?_ (by have h_ := Kd.R_ne HO_3.out BK203.out (by decide); intro e_; exact h_ (by rw [e_]; rfl)) _; (with_reducible repeat (first | refine blk_drewN ?_ _ | refine blk_drew ?_ | refine blk_alloc ?_ _)); exact BK203.out⟩, ⟨by repeat (first | (with_reducible first | exact HB.out | apply below_alloc | apply pw_below_drewN | apply below_drew1 | refine below_set ?_ GB27.out | refine below_set ?_ GB27.out | refine below_set ?_ GE203.out | refine below_set ?_ GE211.out) | exact HB.out)⟩⟩
               ·rw [if_neg c17] at H
                exact absurd H (by simp)
              ·rw [if_neg c16] at H
               exact absurd H (by simp)
             ·rw [if_neg c15] at H
              exact absurd H (by simp)
            ·rw [if_neg c14] at H
             exact absurd H (by simp)
           ·rw [if_neg c13] at H
            exact absurd H (by simp)
          ·rw [if_neg c12] at H
           exact absurd H (by simp)
         ·rw [if_neg c11] at H
          have c11b0 : decide (x24_3 < (l0_1.length : Int)) = false := decide_eq_false c11
          clear c11
          have H' := Aside0.mk H
          clear H
          go_wp2
          go_roundg k3
          case measure => have := HK1.out; have := HK2.out; have := HK3.out; omega
          case rel => exact ⟨(x3_3), (x5_3), (c8_5), H', ⟨by have := HK1.out; have := HK2.out; have := HK3.out; omega⟩, ⟨G.cR HO_3.out⟩, ⟨G.cb BK203.out⟩, ⟨G.cB HB.out⟩⟩
      ·replace c9 := Bool.eq_false_iff.mpr c9
       subst c9
       have H1 : (some x3_2) = some r := by rw [if_neg (show ¬ (false = true) by decide)] at H; exact H
       clear H
       have H := H1
       clear H1
       obtain rfl := Option.some.inj H
       go_wp2
       go_ret
       exact ⟨_, by first | rfl | (simp [errW_none, errW_some] <;> rfl) | (simp [*, errW_none, errW_some] <;> rfl), G.cR HO_3.out, G.cB HB.out⟩

/-! ### impl_Net_joined: function 64 -/
def impl_Net_joined.f (k : Nat) (a0_0 : Int) (l0_1 : List (S63)) (a1 : Int) (a2 : Int) : Option (Bool) := (impl_Net_parts.f k a0_0 l0_1).bind fun t219 => (if 0 ≤ a1 then (if a1 < (t219.length : Int) then (if 0 ≤ a2 then (if a2 < (t219.length : Int) then (some ((rd t219 a1) == (rd t219 a2))) else (none)) else (none)) else (none)) else (none))
theorem impl_Net_joined.mono : ∀ a0 a1 a2 a3 k, LeO (impl_Net_joined.f k a0 a1 a2 a3) (impl_Net_joined.f (k + 1) a0 a1 a2 a3) := by
 intro a0 a1 a2 a3 k
 unfold impl_Net_joined.f
 repeat' first
   | (with_reducible exact impl_Net_parts.mono _ _ _)
   | (with_reducible exact LeO.refl _)
   | (with_reducible exact LeO.none _)
   | (with_reducible refine LeO.ite ?_ ?_)
   | (with_reducible refine LeO.bind ?_ (fun _ => ?_))
   | exact impl_Net_parts.mono _ _ _
   | exact LeO.none _
   | refine LeO.ite ?_ ?_
   | refine LeO.bind ?_ (fun _ => ?_)
set_option maxHeartbeats 8000000 in
set_option maxRecDepth 100000 in
theorem impl_Net_joined.calls (k : Nat) (a0_0 : Int) (A0_1 : Option Addr) (c0_1 : Nat) (l0_1 : List (S63)) (a1 : Int) (a2 : Int) (r : Bool) (w : World) (hr0_1 : Kd.C k63 w A0_1 l0_1.length l0_1) (hc0_1 : l0_1.length ≤ c0_1) (h : impl_Net_joined.f k a0_0 l0_1 a1 a2 = some r) :
  Calls Try.prog 64 #[.agg #[.int .i64 a0_0, .slice A0_1 l0_1.length c0_1], .int .i64 a1, .int .i64 a2] w fun e w' => e = .returned (.bool r) ∧ Below w.heap.size w w' := by
 have hu29 := Try.underlying29
 have HR0_1 := Aside0.mk hr0_1
 have HC0_1 := Aside0.mk hc0_1
 clear hr0_1 hc0_1
 have HB := Aside0.mk (Below.refl w.heap.size w)
 have H : ((impl_Net_parts.f k a0_0 l0_1).bind fun t219 => (if 0 ≤ a1 then (if a1 < (t219.length : Int) then (if 0 ≤ a2 then (if a2 < (t219.length : Int) then (some ((rd t219 a1) == (rd t219 a2))) else (none)) else (none)) else (none)) else (none))) = some r := h
 clear h
 replace H := Option.bind_eq_some_iff.mp H
 obtain ⟨t219, A40, H⟩ := H
 replace H : (if 0 ≤ a1 then (if a1 < (t219.length : Int) then (if 0 ≤ a2 then (if a2 < (t219.length : Int) then (some ((rd t219 a1) == (rd t219 a2))) else (none)) else (none)) else (none)) else (none)) = some r := H
 have A4 := Aside0.mk A40
 clear A40
 by_cases c5 : 0 ≤ a1
 ·rw [if_pos c5] at H
  have c5b0 : decide (0 ≤ a1) = true := decide_eq_true c5
  clear c5
  by_cases c6 : a1 < (t219.length : Int)
  ·rw [if_pos c6] at H
   have c6b0 : decide (a1 < (t219.length : Int)) = true := decide_eq_true c6
   clear c6
   by_cases c7 : 0 ≤ a2
   ·rw [if_pos c7] at H
    have c7b0 : decide (0 ≤ a2) = true := decide_eq_true c7
    clear c7
    by_cases c8 : a2 < (t219.length : Int)
    ·rw [if_pos c8] at H
     have c8b0 : decide (a2 < (t219.length : Int)) = true := decide_eq_true c8
     clear c8
     obtain rfl := Option.some.inj H
     go_enter Try.func64, Try.ntmps64
     go_wp2_with (first | ((with_reducible refine gate_dst (N := 3) rfl ?_); refine G.be 3 #[.int .i64 a0_0, .slice A0_1 l0_1.length c0_1] 29 ?_; intro gb218 hg w9 hbox hb; have n0_ := Aside0.mk (below_step (G.cB HB.out) hb); have n1_ := Aside0.mk (hbox); have n2_ := Aside0.mk ((c8_6 : w.heap.size ≤ gb218)); have n3_ := Aside0.mk ((c8_6 : w.heap.size ≤ gb218)); clear HB; revert n0_ n1_ n2_ n3_; intro HB BK218 GW218 GE218; clear hb hbox hg; have hcz10_0 : w9.cell? ⟨gb218, 0, none⟩ = some (.int .i64 a0_0) := (blk_cell BK218.out 0).trans rfl; have hcz10_1 : w9.cell? ⟨gb218, 1, none⟩ = some (.slice A0_1 l0_1.length c0_1) := (blk_cell BK218.out 1).trans rfl; have hfz10_0 := blk_frozen BK218.out 0; have hfz10_1 := blk_frozen BK218.out 1) | (go_at_call 75; (with_reducible refine (impl_Net_parts.calls k a0_0 _ _ l0_1 t219 _ ?side1 ?side2 A4.out).mono ?_); (case side1 => repeat (first | exact (Kd.C_below HR0_1.out HB.out) | (with_reducible refine Kd.C_alloc ?_ _) | (with_reducible refine Kd.C_drewN ?_ _) | (with_reducible refine Kd.C_drew ?_))); (case side2 => exact HC0_1.out); rintro e w11 ⟨v220, rfl, ho0, hb⟩; have n0_ := Aside0.mk (Kd.R_lower ho0 (below_size (G.cB HB.out))); have n1_ := Aside0.mk (blk_below (g := gb218) (o := .cells #[.int .i64 a0_0, .slice A0_1 l0_1.length c0_1] 29 (0, 0)) (G.cb BK218.out) hb); have n2_ := Aside0.mk (below_step (G.cB HB.out) hb); clear BK218 HB; revert n0_ n1_ n2_; intro HO221 BK218 HB; (try clear hb); (try clear hb2); (try clear hk); (try clear hi); (try clear ho0); obtain ⟨Ao12, co12, eo12⟩ := Kd.R_slice HO221.out; subst eo12; have p222 : 0 ≤ (a1 : Int) := of_decide_eq_true (G.asm); have q222 : a1 < (t219.length : Int) := of_decide_eq_true (G.asm); obtain ⟨ad222, e222, hx222_0⟩ := Kd.at_int (Kd.R_reads' HO221.out).2.2 a1 p222 q222; cases e222; replace p222 := eq_true p222; replace q222 := eq_true q222; have p223 : 0 ≤ (a2 : Int) := of_decide_eq_true (G.asm); have q223 : a2 < (t219.length : Int) := of_decide_eq_true (G.asm); obtain ⟨ad223, e223, hx223_0⟩ := Kd.at_int (Kd.R_reads' HO221.out).2.2 a2 p223 q223; obtain rfl : ad222 = ad223 := (by injection e223); replace p223 := eq_true p223; replace q223 := eq_true q223))
     repeat (go_quiet (first | ((with_reducible refine gate_dst (N := 3) rfl ?_); refine G.be 3 #[.int .i64 a0_0, .slice A0_1 l0_1.length c0_1] 29 ?_; intro gb218 hg w9 hbox hb; have n0_ := Aside0.mk (below_step (G.cB HB.out) hb); have n1_ := Aside0.mk (hbox); have n2_ := Aside0.mk ((c8_6 : w.heap.size ≤ gb218)); have n3_ := Aside0.mk ((c8_6 : w.heap.size ≤ gb218)); clear HB; revert n0_ n1_ n2_ n3_; intro HB BK218 GW218 GE218; clear hb hbox hg; have hcz10_0 : w9.cell? ⟨gb218, 0, none⟩ = some (.int .i64 a0_0) := (blk_cell BK218.out 0).trans rfl; have hcz10_1 : w9.cell? ⟨gb218, 1, none⟩ = some (.slice A0_1 l0_1.length c0_1) := (blk_cell BK218.out 1).trans rfl; have hfz10_0 := blk_frozen BK218.out 0; have hfz10_1 := blk_frozen BK218.out 1) | (go_at_call 75; (with_reducible refine (impl_Net_parts.calls k a0_0 _ _ l0_1 t219 _ ?side1 ?side2 A4.out).mono ?_); (case side1 => repeat (first | exact (Kd.C_below HR0_1.out HB.out) | (with_reducible refine Kd.C_alloc ?_ _) | (with_reducible refine Kd.C_drewN ?_ _) | (with_reducible refine Kd.C_drew ?_))); (case side2 => exact HC0_1.out); rintro e w11 ⟨v220, rfl, ho0, hb⟩; have n0_ := Aside0.mk (Kd.R_lower ho0 (below_size (G.cB HB.out))); have n1_ := Aside0.mk (blk_below (g := gb218) (o := .cells #[.int .i64 a0_0, .slice A0_1 l0_1.length c0_1] 29 (0, 0)) (G.cb BK218.out) hb); have n2_ := Aside0.mk (below_step (G.cB HB.out) hb); clear BK218 HB; revert n0_ n1_ n2_; intro HO221 BK218 HB; (try clear hb); (try clear hb2); (try clear hk); (try clear hi); (try clear ho0); obtain ⟨Ao12, co12, eo12⟩ := Kd.R_slice HO221.out; subst eo12; have p222 : 0 ≤ (a1 : Int) := of_decide_eq_true (G.asm); have q222 : a1 < (t219.length : Int) := of_decide_eq_true (G.asm); obtain ⟨ad222, e222, hx222_0⟩ := Kd.at_int (Kd.R_reads' HO221.out).2.2 a1 p222 q222; cases e222; replace p222 := eq_true p222; replace q222 := eq_true q222; have p223 : 0 ≤ (a2 : Int) := of_decide_eq_true (G.asm); have q223 : a2 < (t219.length : Int) := of_decide_eq_true (G.asm); obtain ⟨ad223, e223, hx223_0⟩ := Kd.at_int (Kd.R_reads' HO221.out).2.2 a2 p223 q223; obtain rfl : ad222 = ad223 := (by injection e223); replace p223 := eq_true p223; replace q223 := eq_true q223)); try go_wp2_with (first | ((with_reducible refine gate_dst (N := 3) rfl ?_); refine G.be 3 #[.int .i64 a0_0, .slice A0_1 l0_1.length c0_1] 29 ?_; intro gb218 hg w9 hbox hb; have n0_ := Aside0.mk (below_step (G.cB HB.out) hb); have n1_ := Aside0.mk (hbox); have n2_ := Aside0.mk ((c8_6 : w.heap.size ≤ gb218)); have n3_ := Aside0.mk ((c8_6 : w.heap.size ≤ gb218)); clear HB; revert n0_ n1_ n2_ n3_; intro HB BK218 GW218 GE218; clear hb hbox hg; have hcz10_0 : w9.cell? ⟨gb218, 0, none⟩ = some (.int .i64 a0_0) := (blk_cell BK218.out 0).trans rfl; have hcz10_1 : w9.cell? ⟨gb218, 1, none⟩ = some (.slice A0_1 l0_1.length c0_1) := (blk_cell BK218.out 1).trans rfl; have hfz10_0 := blk_frozen BK218.out 0; have hfz10_1 := blk_frozen BK218.out 1) | (go_at_call 75; (with_reducible refine (impl_Net_parts.calls k a0_0 _ _ l0_1 t219 _ ?side1 ?side2 A4.out).mono ?_); (case side1 => repeat (first | exact (Kd.C_below HR0_1.out HB.out) | (with_reducible refine Kd.C_alloc ?_ _) | (with_reducible refine Kd.C_drewN ?_ _) | (with_reducible refine Kd.C_drew ?_))); (case side2 => exact HC0_1.out); rintro e w11 ⟨v220, rfl, ho0, hb⟩; have n0_ := Aside0.mk (Kd.R_lower ho0 (below_size (G.cB HB.out))); have n1_ := Aside0.mk (blk_below (g := gb218) (o := .cells #[.int .i64 a0_0, .slice A0_1 l0_1.length c0_1] 29 (0, 0)) (G.cb BK218.out) hb); have n2_ := Aside0.mk (below_step (G.cB HB.out) hb); clear BK218 HB; revert n0_ n1_ n2_; intro HO221 BK218 HB; (try clear hb); (try clear hb2); (try clear hk); (try clear hi); (try clear ho0); obtain ⟨Ao12, co12, eo12⟩ := Kd.R_slice HO221.out; subst eo12; have p222 : 0 ≤ (a1 : Int) := of_decide_eq_true (G.asm); have q222 : a1 < (t219.length : Int) := of_decide_eq_true (G.asm); obtain ⟨ad222, e222, hx222_0⟩ := Kd.at_int (Kd.R_reads' HO221.out).2.2 a1 p222 q222; cases e222; replace p222 := eq_true p222; replace q222 := eq_true q222; have p223 : 0 ≤ (a2 : Int) := of_decide_eq_true (G.asm); have q223 : a2 < (t219.length : Int) := of_decide_eq_true (G.asm); obtain ⟨ad223, e223, hx223_0⟩ := Kd.at_int (Kd.R_reads' HO221.out).2.2 a2 p223 q223; obtain rfl : ad222 = ad223 := (by injection e223); replace p223 := eq_true p223; replace q223 := eq_true q223)))
     go_ret
     exact ⟨by first | rfl | (simp [errW_none, errW_some] <;> rfl) | (simp [*, errW_none, errW_some] <;> rfl), G.cB HB.out⟩
    ·rw [if_neg c8] at H
     exact absurd H (by simp)
   ·rw [if_neg c7] at H
    exact absurd H (by simp)
  ·rw [if_neg c6] at H
   exact absurd H (by simp)
 ·rw [if_neg c5] at H
  exact absurd H (by simp)

end Go.Proofs.Ytbkdpnfjcnkoeaa.P
