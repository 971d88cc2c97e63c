-- Printed by a program of this session (mp.py, over the kit's print). Not trusted: Lean checks it.
import Derived.Test.YtbkdpnfjcnkoeaaF0
namespace Go.Proofs.Ytbkdpnfjcnkoeaa.P
open Go.RowKit Go.Proofs.YtbkdpnfjcnkoeaaW.PrintWords Go.Proofs.YtbkdpnfjcnkoeaaW.PrintLast Go.Proofs.YtbkdpnfjcnkoeaaW.PrintMore
attribute [local go_sem] max2_int min2_int max_two min_two max_three min_three max_four min_four   -- for this text's walks alone
set_option linter.unusedVariables false
set_option linter.unusedSimpArgs false

theorem c2_0 {p : Prop} (h : p := by (with_reducible repeat (first | refine blk_drewN ?_ _ | refine blk_drew ?_ | refine blk_alloc ?_ _)); refine blk_put (cs := #[.int .i64 ((rd_T63 l0_1 x3_2).f0), .int .i64 0]) ?_ 1 _ rfl; (with_reducible repeat (first | refine blk_drewN ?_ _ | refine blk_drew ?_ | refine blk_alloc ?_ _)); refine blk_put (cs := #[.int .i64 0, .int .i64 0]) ?_ 0 _ rfl; (with_reducible repeat (first | refine blk_drewN ?_ _ | refine blk_drew ?_ | refine blk_alloc ?_ _)); exact BK108.out) : p := h
theorem c2_1 {p : Prop} (h : p := by (with_reducible repeat (first | refine blk_drewN ?_ _ | refine blk_drew ?_ | refine blk_alloc ?_ _)); refine blk_far ?_ NB105_108.out _; (with_reducible repeat (first | refine blk_drewN ?_ _ | refine blk_drew ?_ | refine blk_alloc ?_ _)); refine blk_far ?_ NB105_108.out _; (with_reducible repeat (first | refine blk_drewN ?_ _ | refine blk_drew ?_ | refine blk_alloc ?_ _)); exact BK105.out) : p := h
theorem c2_2 {p : Prop} (h : p := by (try simp only [List.map_toArray, List.map_cons, List.map_nil]); first | done | (simp only [hji16]; rfl) | rfl | (simp only [List.length_drop, List.length_take]; rfl)) : p := h
theorem c2_3 {p : Prop} (h : p := by rw [hg]; exact Nat.ne_of_lt (blk_lt (g := gb105) (o := .cells #[.int .i64 a0_0, .slice (some ad107) l0_1.length c0_1] 29 (0, 0)) (G.cb BK105.out))) : p := h
theorem c2_4 {p : Prop} (h : p := by rw [hg]; exact Nat.ne_of_gt (blk_lt (g := gb105) (o := .cells #[.int .i64 a0_0, .slice (some ad107) l0_1.length c0_1] 29 (0, 0)) (G.cb BK105.out))) : p := h
theorem c2_5 {p : Prop} (h : p := by rw [hg]; exact Nat.ne_of_lt (blk_lt (g := gb103) (o := .cells #[.int .i64 a0_0, .int .i64 a0_1] 63 (0, 0)) (G.cb BK103.out))) : p := h
theorem c2_6 {p : Prop} (h : p := by rw [hg]; exact Nat.ne_of_gt (blk_lt (g := gb103) (o := .cells #[.int .i64 a0_0, .int .i64 a0_1] 63 (0, 0)) (G.cb BK103.out))) : p := h
theorem c2_7 {p : Prop} (h : p := by first | rfl | (simp [errW_none, errW_some] <;> rfl) | (simp [*, errW_none, errW_some] <;> rfl)) : p := h
theorem c2_8 {p : Prop} (h : p := by first | rfl | (simp; done) | (simp [*]; done)) : p := h
theorem c2_9 {p : Prop} (h : p := by rw [hg]; exact (below_size (G.cB HB.out))) : p := h
theorem c2_10 {p : Prop} (h : p := by kernel_rfl) : p := h
/-! ### spec_l6In: function 60 -/
def spec_l6In.f (a0 : Int) (a1 : Int) (a2 : Int) : Option (Bool) := if a0 ≥ a1 then (some (decide (a0 ≤ a2))) else (some false)
set_option maxHeartbeats 8000000 in
set_option maxRecDepth 100000 in
theorem spec_l6In.calls (a0 : Int) (a1 : Int) (a2 : Int) (r : Bool) (w : World) (h : spec_l6In.f a0 a1 a2 = some r) :
  Calls Try.prog 60 #[.int .i64 a0, .int .i64 a1, .int .i64 a2] w fun e w' => e = .returned (.bool r) ∧ Drawn0 w w' := by
 have H : (if a0 ≥ a1 then (some (decide (a0 ≤ a2))) else (some false)) = some r := h
 clear h
 by_cases c4 : a0 ≥ a1
 ·rw [if_pos c4] at H
  have c4b0 : decide (a1 ≤ a0) = true := decide_eq_true c4
  clear c4
  obtain rfl := Option.some.inj H
  go_enter Try.func60, Try.ntmps60
  go_wp2
  go_ret
  exact ⟨c2_8, by repeat (first | exact Drawn0.refl _ | apply Drawn0.step)⟩
 ·rw [if_neg c4] at H
  have c4b0 : decide (a1 ≤ a0) = false := decide_eq_false c4
  clear c4
  obtain rfl := Option.some.inj H
  go_enter Try.func60, Try.ntmps60
  go_wp2
  go_ret
  exact ⟨c2_8, by repeat (first | exact Drawn0.refl _ | apply Drawn0.step)⟩

/-! ### spec_l1Less: function 66 -/
def spec_l1Less.f (a0_0 : Int) (a0_1 : Int) (a1_0 : Int) (a1_1 : Int) : Option (Bool) := if a0_0 < a1_0 then (some true) else (if a0_0 = a1_0 then (some (decide (a0_1 < a1_1))) else (some false))
set_option maxHeartbeats 8000000 in
set_option maxRecDepth 100000 in
theorem spec_l1Less.calls (a0_0 : Int) (a0_1 : Int) (a1_0 : Int) (a1_1 : Int) (r : Bool) (w : World) (h : spec_l1Less.f a0_0 a0_1 a1_0 a1_1 = some r) :
  Calls Try.prog 66 #[.agg #[.int .i64 a0_0, .int .i64 a0_1], .agg #[.int .i64 a1_0, .int .i64 a1_1]] w fun e w' => e = .returned (.bool r) ∧ Below w.heap.size w w' := by
 have hu63 := Try.underlying63
 have HB := Aside0.mk (Below.refl w.heap.size w)
 have H : (if a0_0 < a1_0 then (some true) else (if a0_0 = a1_0 then (some (decide (a0_1 < a1_1))) else (some false))) = some r := h
 clear h
 by_cases c3 : a0_0 < a1_0
 ·rw [if_pos c3] at H
  have c3b0 : decide (a0_0 < a1_0) = true := decide_eq_true c3
  clear c3
  obtain rfl := Option.some.inj H
  go_enter Try.func66, Try.ntmps66
  go_wp2_with (first | ((with_reducible refine gate_dst (N := 2) rfl ?_); refine G.be 2 #[.int .i64 a0_0, .int .i64 a0_1] 63 ?_; intro gb103 hg w4 hbox hb; have n0_ := Aside0.mk (below_step (G.cB HB.out) hb); have n1_ := Aside0.mk (hbox); have n2_ := Aside0.mk ((c2_9 : w.heap.size ≤ gb103)); have n3_ := Aside0.mk ((c2_9 : w.heap.size ≤ gb103)); clear HB; revert n0_ n1_ n2_ n3_; intro HB BK103 GW103 GE103; clear hb hbox hg) | ((with_reducible refine gate_dst (N := 3) rfl ?_); refine G.be 3 #[.int .i64 a1_0, .int .i64 a1_1] 63 ?_; intro gb104 hg w5 hbox hb; have n0_ := Aside0.mk (blk_below (g := gb103) (o := .cells #[.int .i64 a0_0, .int .i64 a0_1] 63 (0, 0)) (G.cb BK103.out) hb); have n1_ := Aside0.mk (below_step (G.cB HB.out) hb); have n2_ := Aside0.mk (hbox); have n3_ := Aside0.mk ((c2_9 : w.heap.size ≤ gb104)); have n4_ := Aside0.mk ((c2_9 : w.heap.size ≤ gb104)); have n5_ := Aside0.mk ((c2_5 : gb103 ≠ gb104)); have n6_ := Aside0.mk ((c2_6 : gb104 ≠ gb103)); clear BK103 HB; revert n0_ n1_ n2_ n3_ n4_ n5_ n6_; intro BK103 HB BK104 GW104 GE104 NB103_104 NB104_103; clear hb hbox hg; have hnb6 := NB103_104.out; have hnc6 := NB104_103.out; have hcz7_0 : w5.cell? ⟨gb103, 0, none⟩ = some (.int .i64 a0_0) := (blk_cell BK103.out 0).trans rfl; have hcz7_1 : w5.cell? ⟨gb103, 1, none⟩ = some (.int .i64 a0_1) := (blk_cell BK103.out 1).trans rfl; have hfz7_0 := blk_frozen BK103.out 0; have hfz7_1 := blk_frozen BK103.out 1; have hcz8_0 : w5.cell? ⟨gb104, 0, none⟩ = some (.int .i64 a1_0) := (blk_cell BK104.out 0).trans rfl; have hcz8_1 : w5.cell? ⟨gb104, 1, none⟩ = some (.int .i64 a1_1) := (blk_cell BK104.out 1).trans rfl; have hfz8_0 := blk_frozen BK104.out 0; have hfz8_1 := blk_frozen BK104.out 1))
  go_ret
  exact ⟨c2_7, G.cB HB.out⟩
 ·rw [if_neg c3] at H
  have c3b0 : decide (a0_0 < a1_0) = false := decide_eq_false c3
  clear c3
  by_cases c9 : a0_0 = a1_0
  ·rw [if_pos c9] at H
   have c9b0 : (a0_0 == a1_0) = true := beq_iff_eq.mpr c9
   have c9b1 : (a0_0 != a1_0) = false := bne_eq_false_iff_eq.mpr c9
   clear c9
   obtain rfl := Option.some.inj H
   go_enter Try.func66, Try.ntmps66
   go_wp2_with (first | ((with_reducible refine gate_dst (N := 2) rfl ?_); refine G.be 2 #[.int .i64 a0_0, .int .i64 a0_1] 63 ?_; intro gb103 hg w10 hbox hb; have n0_ := Aside0.mk (below_step (G.cB HB.out) hb); have n1_ := Aside0.mk (hbox); have n2_ := Aside0.mk ((c2_9 : w.heap.size ≤ gb103)); have n3_ := Aside0.mk ((c2_9 : w.heap.size ≤ gb103)); clear HB; revert n0_ n1_ n2_ n3_; intro HB BK103 GW103 GE103; clear hb hbox hg) | ((with_reducible refine gate_dst (N := 3) rfl ?_); refine G.be 3 #[.int .i64 a1_0, .int .i64 a1_1] 63 ?_; intro gb104 hg w11 hbox hb; have n0_ := Aside0.mk (blk_below (g := gb103) (o := .cells #[.int .i64 a0_0, .int .i64 a0_1] 63 (0, 0)) (G.cb BK103.out) hb); have n1_ := Aside0.mk (below_step (G.cB HB.out) hb); have n2_ := Aside0.mk (hbox); have n3_ := Aside0.mk ((c2_9 : w.heap.size ≤ gb104)); have n4_ := Aside0.mk ((c2_9 : w.heap.size ≤ gb104)); have n5_ := Aside0.mk ((c2_5 : gb103 ≠ gb104)); have n6_ := Aside0.mk ((c2_6 : gb104 ≠ gb103)); clear BK103 HB; revert n0_ n1_ n2_ n3_ n4_ n5_ n6_; intro BK103 HB BK104 GW104 GE104 NB103_104 NB104_103; clear hb hbox hg; have hnb12 := NB103_104.out; have hnc12 := NB104_103.out; have hcz13_0 : w11.cell? ⟨gb103, 0, none⟩ = some (.int .i64 a0_0) := (blk_cell BK103.out 0).trans rfl; have hcz13_1 : w11.cell? ⟨gb103, 1, none⟩ = some (.int .i64 a0_1) := (blk_cell BK103.out 1).trans rfl; have hfz13_0 := blk_frozen BK103.out 0; have hfz13_1 := blk_frozen BK103.out 1; have hcz14_0 : w11.cell? ⟨gb104, 0, none⟩ = some (.int .i64 a1_0) := (blk_cell BK104.out 0).trans rfl; have hcz14_1 : w11.cell? ⟨gb104, 1, none⟩ = some (.int .i64 a1_1) := (blk_cell BK104.out 1).trans rfl; have hfz14_0 := blk_frozen BK104.out 0; have hfz14_1 := blk_frozen BK104.out 1))
   go_ret
   exact ⟨c2_7, G.cB HB.out⟩
  ·rw [if_neg c9] at H
   have c9b0 : (a0_0 == a1_0) = false := beq_eq_false_iff_ne.mpr c9
   have c9b1 : (a0_0 != a1_0) = true := bne_iff_ne.mpr c9
   obtain rfl := Option.some.inj H
   go_enter Try.func66, Try.ntmps66
   go_wp2_with (first | ((with_reducible refine gate_dst (N := 2) rfl ?_); refine G.be 2 #[.int .i64 a0_0, .int .i64 a0_1] 63 ?_; intro gb103 hg w15 hbox hb; have n0_ := Aside0.mk (below_step (G.cB HB.out) hb); have n1_ := Aside0.mk (hbox); have n2_ := Aside0.mk ((c2_9 : w.heap.size ≤ gb103)); have n3_ := Aside0.mk ((c2_9 : w.heap.size ≤ gb103)); clear HB; revert n0_ n1_ n2_ n3_; intro HB BK103 GW103 GE103; clear hb hbox hg) | ((with_reducible refine gate_dst (N := 3) rfl ?_); refine G.be 3 #[.int .i64 a1_0, .int .i64 a1_1] 63 ?_; intro gb104 hg w16 hbox hb; have n0_ := Aside0.mk (blk_below (g := gb103) (o := .cells #[.int .i64 a0_0, .int .i64 a0_1] 63 (0, 0)) (G.cb BK103.out) hb); have n1_ := Aside0.mk (below_step (G.cB HB.out) hb); have n2_ := Aside0.mk (hbox); have n3_ := Aside0.mk ((c2_9 : w.heap.size ≤ gb104)); have n4_ := Aside0.mk ((c2_9 : w.heap.size ≤ gb104)); have n5_ := Aside0.mk ((c2_5 : gb103 ≠ gb104)); have n6_ := Aside0.mk ((c2_6 : gb104 ≠ gb103)); clear BK103 HB; revert n0_ n1_ n2_ n3_ n4_ n5_ n6_; intro BK103 HB BK104 GW104 GE104 NB103_104 NB104_103; clear hb hbox hg; have hnb17 := NB103_104.out; have hnc17 := NB104_103.out; have hcz18_0 : w16.cell? ⟨gb103, 0, none⟩ = some (.int .i64 a0_0) := (blk_cell BK103.out 0).trans rfl; have hcz18_1 : w16.cell? ⟨gb103, 1, none⟩ = some (.int .i64 a0_1) := (blk_cell BK103.out 1).trans rfl; have hfz18_0 := blk_frozen BK103.out 0; have hfz18_1 := blk_frozen BK103.out 1; have hcz19_0 : w16.cell? ⟨gb104, 0, none⟩ = some (.int .i64 a1_0) := (blk_cell BK104.out 0).trans rfl; have hcz19_1 : w16.cell? ⟨gb104, 1, none⟩ = some (.int .i64 a1_1) := (blk_cell BK104.out 1).trans rfl; have hfz19_0 := blk_frozen BK104.out 0; have hfz19_1 := blk_frozen BK104.out 1))
   go_ret
   exact ⟨c2_7, G.cB HB.out⟩

/-! ### spec_NetOk: function 46 -/
mutual
def spec_NetOk.j0 : Nat → Bool → Int → List (S63) → Option (Bool)
 | 0, _, _, _ => none
 | k + 1, x14, x106000, x106001 => if x14 = true then (some false) else (spec_NetOk.l0 k 0 x106000 x106001)
def spec_NetOk.l0 : Nat → Int → Int → List (S63) → Option (Bool)
 | 0, _, _, _ => none
 | k + 1, x3, x106000, x106001 => if x3 < (x106001.length : Int) then (if 0 ≤ x3 then ((spec_l6In.f ((rd_T63 x106001 x3).f0) 0 (wrap64 (x106000 - 1))).bind fun t109 => (if t109 = true then ((spec_l6In.f ((rd_T63 x106001 x3).f1) (wrap64 (((rd_T63 x106001 x3).f0) + 1)) (wrap64 (x106000 - 1))).bind fun t110 => (if t110 = true then (if x3 > 0 then (if 0 ≤ (wrap64 (x3 - 1)) then (if (wrap64 (x3 - 1)) < (x106001.length : Int) then ((spec_l1Less.f ((rd_T63 x106001 (wrap64 (x3 - 1))).f0) ((rd_T63 x106001 (wrap64 (x3 - 1))).f1) ((rd_T63 x106001 x3).f0) ((rd_T63 x106001 x3).f1)).bind fun t112 => (if t112 = true then (spec_NetOk.l0 k (wrap64 (x3 + 1)) x106000 x106001) else (some false))) else (none)) else (none)) else (spec_NetOk.l0 k (wrap64 (x3 + 1)) x106000 x106001)) else (some false))) else (some false))) else (none)) else (some true)
end
def spec_NetOk.f (k : Nat) (a0_0 : Int) (l0_1 : List (S63)) : Option (Bool) := (spec_l6In.f a0_0 0 8).bind fun t106 => (if t106 = true then (spec_NetOk.j0 k (decide ((l0_1.length : Int) > 64)) a0_0 l0_1) else (spec_NetOk.j0 k true a0_0 l0_1))
theorem spec_NetOk.mono_l : ∀ k, (∀ y0 y1 y2, LeO (spec_NetOk.j0 k y0 y1 y2) (spec_NetOk.j0 (k + 1) y0 y1 y2)) ∧ (∀ y0 y1 y2, LeO (spec_NetOk.l0 k y0 y1 y2) (spec_NetOk.l0 (k + 1) y0 y1 y2))
 | 0 => ⟨fun _ _ _ r h => by simp [spec_NetOk.j0] at h, fun _ _ _ r h => by simp [spec_NetOk.l0] at h⟩
 | k + 1 => by
  obtain ⟨ih0, ih1⟩ := spec_NetOk.mono_l k
  refine ⟨?_, ?_⟩
  ·intro y0 y1 y2
   unfold spec_NetOk.j0
   repeat' first
   | (with_reducible exact ih0 _ _ _)
   | (with_reducible exact ih1 _ _ _)
   | (with_reducible exact LeO.refl _)
   | (with_reducible exact LeO.none _)
   | (with_reducible refine LeO.ite ?_ ?_)
   | (with_reducible refine LeO.bind ?_ (fun _ => ?_))
   | exact ih0 _ _ _
   | exact ih1 _ _ _
   | exact LeO.none _
   | refine LeO.ite ?_ ?_
   | refine LeO.bind ?_ (fun _ => ?_)
  ·intro y0 y1 y2
   unfold spec_NetOk.l0
   repeat' first
   | (with_reducible exact ih0 _ _ _)
   | (with_reducible exact ih1 _ _ _)
   | (with_reducible exact LeO.refl _)
   | (with_reducible exact LeO.none _)
   | (with_reducible refine LeO.ite ?_ ?_)
   | (with_reducible refine LeO.bind ?_ (fun _ => ?_))
   | exact ih0 _ _ _
   | exact ih1 _ _ _
   | exact LeO.none _
   | refine LeO.ite ?_ ?_
   | refine LeO.bind ?_ (fun _ => ?_)
theorem spec_NetOk.mono : ∀ a0 a1 k, LeO (spec_NetOk.f k a0 a1) (spec_NetOk.f (k + 1) a0 a1) := by
 intro a0 a1 k
 obtain ⟨ih0, ih1⟩ := spec_NetOk.mono_l k
 unfold spec_NetOk.f
 repeat' first
   | (with_reducible exact ih0 _ _ _)
   | (with_reducible exact ih1 _ _ _)
   | (with_reducible exact LeO.refl _)
   | (with_reducible exact LeO.none _)
   | (with_reducible refine LeO.ite ?_ ?_)
   | (with_reducible refine LeO.bind ?_ (fun _ => ?_))
   | exact ih0 _ _ _
   | exact ih1 _ _ _
   | exact LeO.none _
   | refine LeO.ite ?_ ?_
   | refine LeO.bind ?_ (fun _ => ?_)
def spec_NetOk.T7 : Bool × List (List Nat × List Nat) := (true, [([], []), ([0], [0]), ([], []), ([2], [2]), ([3], [3]), ([1, 4], [1, 4]), ([5], [5]), ([6, 5], [6]), ([7], [7]), ([8, 7], [7, 8]), ([7], [7]), ([10, 7], [7, 10]), ([11, 7], [7, 11]), ([7], [7]), ([13, 7], [7, 13]), ([14, 7], [7, 14]), ([9, 12, 15, 7, 7], [7, 9, 12, 15]), ([16, 7], [7, 16]), ([7, 17], [7, 17]), ([18, 16], [18]), ([19], [19]), ([20, 19], [19, 20]), ([21, 19, 19], [19, 21]), ([22], [22]), ([23, 22], [22, 23]), ([22], [22]), ([25, 22], [22, 25]), ([24, 26, 22], [22, 24, 26]), ([27, 22], [22, 27]), ([22], [22]), ([28, 29, 22, 22], [22, 28, 29]), ([30, 22], [22, 30]), ([22, 31, 19], [19, 22, 31]), ([19, 32], [19, 32])])
def spec_NetOk.B7 : List Nat := [0, 1, 0, 4, 12, 31, 63, 127, 255, 511, 255, 1279, 3327, 255, 8447, 24831, 65535, 131071, 262143, 524287, 1048575, 2097151, 4194303, 8388607, 16777215, 8388607, 41943039, 134217727, 268435455, 8388607, 1073741823, 2147483647, 4294967295, 8589934591]
theorem spec_NetOk.tab7 : rtab .any (opsOf Try.f46 7) = spec_NetOk.T7 := by kernel_rfl
theorem spec_NetOk.bits7 : waitsOk spec_NetOk.T7.2 spec_NetOk.B7 = true := by kernel_rfl
set_option maxHeartbeats 8000000 in
set_option maxRecDepth 100000 in
theorem spec_NetOk.calls (k : Nat) (a0_0 : Int) (A0_1 : Option Addr) (c0_1 : Nat) (l0_1 : List (S63)) (r : Bool) (w : World) (hr0_1 : Kd.C k63 w A0_1 l0_1.length l0_1) (hc0_1 : l0_1.length ≤ c0_1) (h : spec_NetOk.f k a0_0 l0_1 = some r) :
  Calls Try.prog 46 #[.agg #[.int .i64 a0_0, .slice A0_1 l0_1.length c0_1]] w fun e w' => e = .returned (.bool r) ∧ Below w.heap.size w w' := by
 have hu29 := Try.underlying29
 have hu63 := Try.underlying63
 have HR0_1 := Aside0.mk hr0_1
 have HC0_1 := Aside0.mk hc0_1
 clear hr0_1 hc0_1
 have HB := Aside0.mk (Below.refl w.heap.size w)
 have H : ((spec_l6In.f a0_0 0 8).bind fun t106 => (if t106 = true then (spec_NetOk.j0 k (decide ((l0_1.length : Int) > 64)) a0_0 l0_1) else (spec_NetOk.j0 k true a0_0 l0_1))) = some r := h
 clear h
 have HC2 := Aside0.mk H
 clear H
 go_enter Try.func46, Try.ntmps46
 go_upto_region 1 with (first | ((with_reducible refine gate_dst (N := 1) rfl ?_); (try (refine gate_guard (by rfl) ?_; dsimp only)); refine G.be 1 #[.int .i64 a0_0, .slice A0_1 l0_1.length c0_1] 29 ?_; intro gb105 hg w3 hbox hb; have n0_ := Aside0.mk (below_step (G.cB HB.out) hb); have n1_ := Aside0.mk (hbox); have n2_ := Aside0.mk ((c2_9 : w.heap.size ≤ gb105)); have n3_ := Aside0.mk ((c2_9 : w.heap.size ≤ gb105)); clear HB; revert n0_ n1_ n2_ n3_; intro HB BK105 GW105 GE105; clear hb hbox hg))
 (try simp only [Act.put, List.setIfInBounds_toArray, List.set_cons_zero, List.set_cons_succ])
 go_cut [14] (fun v14 wc => ∃ (kq : Nat) (x14_1 : Bool), v14 = .bool x14_1 ∧ Aside0 (spec_NetOk.j0 kq x14_1 a0_0 l0_1 = some r) ∧ Aside0 (kq ≤ k) ∧ Aside0 (wc.heap[gb105]? = some (.cells #[.int .i64 a0_0, (.slice A0_1 l0_1.length c0_1)] 29 (0, 0))) ∧ Aside0 (Below w.heap.size w wc))
 case first =>
  have H := HC2.out
  clear HC2
  replace H := Option.bind_eq_some_iff.mp H
  obtain ⟨t106, A40, H⟩ := H
  replace H : (if t106 = true then (spec_NetOk.j0 k (decide ((l0_1.length : Int) > 64)) a0_0 l0_1) else (spec_NetOk.j0 k true a0_0 l0_1)) = some r := H
  have A4 := Aside0.mk A40
  clear A40
  by_cases c5 : t106 = true
  ·subst c5
   have H1 : (spec_NetOk.j0 k (decide ((l0_1.length : Int) > 64)) a0_0 l0_1) = some r := by rw [if_pos rfl] at H; exact H
   clear H
   have H := H1
   clear H1
   have H' := Aside0.mk H
   clear H
   have hcz6_0 : w3.cell? ⟨gb105, 0, none⟩ = some (.int .i64 a0_0) := (blk_cell BK105.out 0).trans rfl
   have hcz6_1 : w3.cell? ⟨gb105, 1, none⟩ = some (.slice A0_1 l0_1.length c0_1) := (blk_cell BK105.out 1).trans rfl
   have hfz6_0 := blk_frozen BK105.out 0
   have hfz6_1 := blk_frozen BK105.out 1
   go_wp2_with (first | ((with_reducible refine gate_callee (f := 60) rfl ?_); refine goesL_ (some 7) rfl rfl Try.func60 (c2_10) rfl #[.int .i64 a0_0, .int .i64 0, .int .i64 8] rfl (G.ar) ?_; (with_reducible refine (spec_l6In.calls a0_0 0 8 true _ A4.out).mono ?_); rintro e w' ⟨rfl, ⟨nd, rfl⟩⟩; refine ⟨_, rfl, ?_⟩))
   go_meet
   case rel => exact ⟨_, (decide ((l0_1.length : Int) > 64)), (c2_8), H', ⟨by first | omega | exact Nat.le_refl _⟩, ⟨G.cb BK105.out⟩, ⟨G.cB HB.out⟩⟩
  ·replace c5 := Bool.eq_false_iff.mpr c5
   subst c5
   have H1 : (spec_NetOk.j0 k true a0_0 l0_1) = some r := by rw [if_neg (show ¬ (false = true) by decide)] at H; exact H
   clear H
   have H := H1
   clear H1
   have H' := Aside0.mk H
   clear H
   have hcz7_0 : w3.cell? ⟨gb105, 0, none⟩ = some (.int .i64 a0_0) := (blk_cell BK105.out 0).trans rfl
   have hcz7_1 : w3.cell? ⟨gb105, 1, none⟩ = some (.slice A0_1 l0_1.length c0_1) := (blk_cell BK105.out 1).trans rfl
   have hfz7_0 := blk_frozen BK105.out 0
   have hfz7_1 := blk_frozen BK105.out 1
   go_wp2_with (first | ((with_reducible refine gate_callee (f := 60) rfl ?_); refine goesL_ (some 7) rfl rfl Try.func60 (c2_10) rfl #[.int .i64 a0_0, .int .i64 0, .int .i64 8] rfl (G.ar) ?_; (with_reducible refine (spec_l6In.calls a0_0 0 8 false _ A4.out).mono ?_); rintro e w' ⟨rfl, ⟨nd, rfl⟩⟩; refine ⟨_, rfl, ?_⟩))
   go_meet
   case rel => exact ⟨_, (true), (c2_8), H', ⟨by first | omega | exact Nat.le_refl _⟩, ⟨G.cb BK105.out⟩, ⟨G.cB HB.out⟩⟩
 case rest =>
  clear HC2
  (try clear p2); (try clear c4); (try clear c5); (try clear c6); (try clear hcz6_0); (try clear hcz6_1); (try clear hcz7_0); (try clear hcz7_1); (try clear hfz6_0); (try clear hfz6_1); (try clear hfz7_0); (try clear hfz7_1)
  obtain ⟨kq, x14_1, rfl, HA, HJ1, BK105, HB⟩ := hcut
  cases kq with
  | zero => exact absurd HA.out (by simp [spec_NetOk.j0])
  | succ kj1 =>
   have H := HA.out
   clear HA
   simp only [spec_NetOk.j0] at H
   by_cases c8 : x14_1 = true
   ·subst c8
    have H1 : (some false) = some r := by rw [if_pos rfl] at H; exact H
    clear H
    have H := H1
    clear H1
    obtain rfl := Option.some.inj H
    go_wp2
    go_ret
    exact ⟨c2_7, G.cB HB.out⟩
   ·replace c8 := Bool.eq_false_iff.mpr c8
    subst c8
    have H1 : (spec_NetOk.l0 kj1 0 a0_0 l0_1) = some r := by rw [if_neg (show ¬ (false = true) by decide)] at H; exact H
    clear H
    have H := H1
    clear H1
    have H' := Aside0.mk H
    clear H
    go_wp2
    go_loopg [3] kj1 (fun kq v3 w' => ∃ (x3_2 : Int), v3 = .int .i64 x3_2 ∧ Aside0 (spec_NetOk.l0 kq x3_2 a0_0 l0_1 = some r) ∧ Aside0 (kq ≤ kj1) ∧ Aside0 (w'.heap[gb105]? = some (.cells #[.int .i64 a0_0, (.slice A0_1 l0_1.length c0_1)] 29 (0, 0))) ∧ Aside0 (Below w.heap.size w w'))
    case atStart => exact ⟨(0), (c2_8), H', ⟨Nat.le_refl _⟩, ⟨G.cb BK105.out⟩, ⟨G.cB HB.out⟩⟩
    case round =>
     clear H'
     (try clear p2); (try clear c4); (try clear c5); (try clear c6); (try clear c8); (try clear hcz6_0); (try clear hcz6_1); (try clear hcz7_0); (try clear hcz7_1); (try clear hfz6_0); (try clear hfz6_1); (try clear hfz7_0); (try clear hfz7_1); (try clear p2)
     obtain ⟨x3_2, rfl, HA, HK2, BK105, HB⟩ := hrel
     cases gk with
     | zero => exact absurd HA.out (by simp [spec_NetOk.l0])
     | succ k2 =>
      have H := HA.out
      clear HA
      simp only [spec_NetOk.l0] at H
      by_cases c9 : x3_2 < (l0_1.length : Int)
      ·rw [if_pos c9] at H
       have c9b0 : decide (x3_2 < (l0_1.length : Int)) = true := decide_eq_true c9
       clear c9
       by_cases c10 : 0 ≤ x3_2
       ·rw [if_pos c10] at H
        have c10b0 : decide (0 ≤ x3_2) = true := decide_eq_true c10
        clear c10
        replace H := Option.bind_eq_some_iff.mp H
        obtain ⟨t109, A110, H⟩ := H
        replace H : (if t109 = true then ((spec_l6In.f ((rd_T63 l0_1 x3_2).f1) (wrap64 (((rd_T63 l0_1 x3_2).f0) + 1)) (wrap64 (a0_0 - 1))).bind fun t110 => (if t110 = true then (if x3_2 > 0 then (if 0 ≤ (wrap64 (x3_2 - 1)) then (if (wrap64 (x3_2 - 1)) < (l0_1.length : Int) then ((spec_l1Less.f ((rd_T63 l0_1 (wrap64 (x3_2 - 1))).f0) ((rd_T63 l0_1 (wrap64 (x3_2 - 1))).f1) ((rd_T63 l0_1 x3_2).f0) ((rd_T63 l0_1 x3_2).f1)).bind fun t112 => (if t112 = true then (spec_NetOk.l0 k2 (wrap64 (x3_2 + 1)) a0_0 l0_1) else (some false))) else (none)) else (none)) else (spec_NetOk.l0 k2 (wrap64 (x3_2 + 1)) a0_0 l0_1)) else (some false))) else (some false)) = some r := H
        have A11 := Aside0.mk A110
        clear A110
        by_cases c12 : t109 = true
        ·subst c12
         have H1 : ((spec_l6In.f ((rd_T63 l0_1 x3_2).f1) (wrap64 (((rd_T63 l0_1 x3_2).f0) + 1)) (wrap64 (a0_0 - 1))).bind fun t110 => (if t110 = true then (if x3_2 > 0 then (if 0 ≤ (wrap64 (x3_2 - 1)) then (if (wrap64 (x3_2 - 1)) < (l0_1.length : Int) then ((spec_l1Less.f ((rd_T63 l0_1 (wrap64 (x3_2 - 1))).f0) ((rd_T63 l0_1 (wrap64 (x3_2 - 1))).f1) ((rd_T63 l0_1 x3_2).f0) ((rd_T63 l0_1 x3_2).f1)).bind fun t112 => (if t112 = true then (spec_NetOk.l0 k2 (wrap64 (x3_2 + 1)) a0_0 l0_1) else (some false))) else (none)) else (none)) else (spec_NetOk.l0 k2 (wrap64 (x3_2 + 1)) a0_0 l0_1)) else (some false))) = some r := by rw [if_pos rfl] at H; exact H
         clear H
         have H := H1
         clear H1
         replace H := Option.bind_eq_some_iff.mp H
         obtain ⟨t110, A130, H⟩ := H
         replace H : (if t110 = true then (if x3_2 > 0 then (if 0 ≤ (wrap64 (x3_2 - 1)) then (if (wrap64 (x3_2 - 1)) < (l0_1.length : Int) then ((spec_l1Less.f ((rd_T63 l0_1 (wrap64 (x3_2 - 1))).f0) ((rd_T63 l0_1 (wrap64 (x3_2 - 1))).f1) ((rd_T63 l0_1 x3_2).f0) ((rd_T63 l0_1 x3_2).f1)).bind fun t112 => (if t112 = true then (spec_NetOk.l0 k2 (wrap64 (x3_2 + 1)) a0_0 l0_1) else (some false))) else (none)) else (none)) else (spec_NetOk.l0 k2 (wrap64 (x3_2 + 1)) a0_0 l0_1)) else (some false)) = some r := H
         have A13 := Aside0.mk A130
         clear A130
         by_cases c14 : t110 = true
         ·subst c14
          have H1 : (if x3_2 > 0 then (if 0 ≤ (wrap64 (x3_2 - 1)) then (if (wrap64 (x3_2 - 1)) < (l0_1.length : Int) then ((spec_l1Less.f ((rd_T63 l0_1 (wrap64 (x3_2 - 1))).f0) ((rd_T63 l0_1 (wrap64 (x3_2 - 1))).f1) ((rd_T63 l0_1 x3_2).f0) ((rd_T63 l0_1 x3_2).f1)).bind fun t112 => (if t112 = true then (spec_NetOk.l0 k2 (wrap64 (x3_2 + 1)) a0_0 l0_1) else (some false))) else (none)) else (none)) else (spec_NetOk.l0 k2 (wrap64 (x3_2 + 1)) a0_0 l0_1)) = some r := by rw [if_pos rfl] at H; exact H
          clear H
          have H := H1
          clear H1
          by_cases c15 : x3_2 > 0
          ·rw [if_pos c15] at H
           have c15b0 : decide (0 < x3_2) = true := decide_eq_true c15
           clear c15
           obtain ⟨ji16, hji16⟩ : ∃ j_ : Int, (wrap64 (x3_2 - 1)) = j_ := ⟨_, rfl⟩
           replace H : (if 0 ≤ (ji16) then (if (ji16) < (l0_1.length : Int) then ((spec_l1Less.f ((rd_T63 l0_1 (ji16)).f0) ((rd_T63 l0_1 (ji16)).f1) ((rd_T63 l0_1 x3_2).f0) ((rd_T63 l0_1 x3_2).f1)).bind fun t112 => (if t112 = true then (spec_NetOk.l0 k2 (wrap64 (x3_2 + 1)) a0_0 l0_1) else (some false))) else (none)) else (none)) = some r := by first | (rw [hji16] at H; exact H) | (simp only [hji16] at H ⊢; exact H)
           (try rw [hji16] at A11)
           (try rw [hji16] at A13)
           have hji16w : (IntKind.i64.wrap (x3_2 - 1)) = ji16 := (i64_w _).trans hji16
           by_cases c17 : 0 ≤ (ji16)
           ·rw [if_pos c17] at H
            have c17b0 : decide (0 ≤ (ji16)) = true := decide_eq_true c17
            clear c17
            by_cases c18 : (ji16) < (l0_1.length : Int)
            ·rw [if_pos c18] at H
             have c18b0 : decide ((ji16) < (l0_1.length : Int)) = true := decide_eq_true c18
             clear c18
             replace H := Option.bind_eq_some_iff.mp H
             obtain ⟨t112, A190, H⟩ := H
             replace H : (if t112 = true then (spec_NetOk.l0 k2 (wrap64 (x3_2 + 1)) a0_0 l0_1) else (some false)) = some r := H
             have A19 := Aside0.mk A190
             clear A190
             by_cases c20 : t112 = true
             ·subst c20
              have H1 : (spec_NetOk.l0 k2 (wrap64 (x3_2 + 1)) a0_0 l0_1) = some r := by rw [if_pos rfl] at H; exact H
              clear H
              have H := H1
              clear H1
              have H' := Aside0.mk H
              clear H
              have hcz21_0 : wr.cell? ⟨gb105, 0, none⟩ = some (.int .i64 a0_0) := (blk_cell BK105.out 0).trans rfl
              have hcz21_1 : wr.cell? ⟨gb105, 1, none⟩ = some (.slice A0_1 l0_1.length c0_1) := (blk_cell BK105.out 1).trans rfl
              have hfz21_0 := blk_frozen BK105.out 0
              have hfz21_1 := blk_frozen BK105.out 1
              have p107 : 0 ≤ (x3_2 : Int) := of_decide_eq_true (G.asm)
              have q107 : x3_2 < (l0_1.length : Int) := of_decide_eq_true (G.asm)
              obtain ⟨ad107, e107, hx107_0, hx107_1⟩ := at_T63 HR0_1.out x3_2 p107 q107
              cases e107
              replace hx107_0 := (HB.out.cell (World.block_lt_of_cell? w _ hx107_0)).trans hx107_0
              replace hx107_1 := (HB.out.cell (World.block_lt_of_cell? w _ hx107_1)).trans hx107_1
              replace p107 := eq_true p107
              replace q107 := eq_true q107
              try go_wp2_with (first | ((with_reducible refine gate_dst (N := 4) rfl ?_); (try (refine gate_guard (by rfl) ?_; dsimp only)); refine G.be 4 #[.int .i64 0, .int .i64 0] 63 ?_; intro gb108 hg w22 hbox hb; have n0_ := Aside0.mk (blk_below (g := gb105) (o := .cells #[.int .i64 a0_0, .slice (some ad107) l0_1.length c0_1] 29 (0, 0)) (G.cb BK105.out) hb); have n1_ := Aside0.mk (below_step (G.cB HB.out) hb); have n2_ := Aside0.mk (hbox); have n3_ := Aside0.mk ((c2_9 : w.heap.size ≤ gb108)); have n4_ := Aside0.mk ((c2_9 : w.heap.size ≤ gb108)); have n5_ := Aside0.mk ((c2_3 : gb105 ≠ gb108)); have n6_ := Aside0.mk ((c2_4 : gb108 ≠ gb105)); clear BK105 HB; revert n0_ n1_ n2_ n3_ n4_ n5_ n6_; intro BK105 HB BK108 GW108 GE108 NB105_108 NB108_105; clear hb hbox hg; have hnb23 := NB108_105.out; have hnc23 := NB105_108.out; have hcz24_0 : w22.cell? ⟨gb108, 0, none⟩ = some (.int .i64 0) := (blk_cell BK108.out 0).trans rfl; have hcz24_1 : w22.cell? ⟨gb108, 1, none⟩ = some (.int .i64 0) := (blk_cell BK108.out 1).trans rfl; have hfz24_0 := blk_frozen BK108.out 0; have hfz24_1 := blk_frozen BK108.out 1))
              have n0_ : Aside0 (((w22.setCell ⟨gb108, 0, none⟩ (.int .i64 ((rd_T63 l0_1 x3_2).f0))).setCell ⟨gb108, 1, none⟩ (.int .i64 ((rd_T63 l0_1 x3_2).f1))).heap[gb105]? = some (.cells #[.int .i64 a0_0, .slice (some ad107) l0_1.length c0_1] 29 (0, 0))) := ⟨c2_1⟩
              have n1_ : Aside0 (((w22.setCell ⟨gb108, 0, none⟩ (.int .i64 ((rd_T63 l0_1 x3_2).f0))).setCell ⟨gb108, 1, none⟩ (.int .i64 ((rd_T63 l0_1 x3_2).f1))).heap[gb108]? = some (.cells #[.int .i64 ((rd_T63 l0_1 x3_2).f0), .int .i64 ((rd_T63 l0_1 x3_2).f1)] 63 (0, 0))) := ⟨c2_0⟩
              have n2_ : Aside0 (Below w.heap.size w ((w22.setCell ⟨gb108, 0, none⟩ (.int .i64 ((rd_T63 l0_1 x3_2).f0))).setCell ⟨gb108, 1, none⟩ (.int .i64 ((rd_T63 l0_1 x3_2).f1)))) := ⟨G.cB HB.out⟩
              (try clear BK105)
              (try clear BK108)
              (try clear HB)
              generalize ((w22.setCell ⟨gb108, 0, none⟩ (.int .i64 ((rd_T63 l0_1 x3_2).f0))).setCell ⟨gb108, 1, none⟩ (.int .i64 ((rd_T63 l0_1 x3_2).f1))) = w25 at n0_ n1_ n2_ ⊢
              revert n0_ n1_ n2_
              intro BK105 BK108 HB
              have n0_ := Aside0.mk (blk_drew BK105.out)
              have n1_ := Aside0.mk (blk_drew BK108.out)
              have n2_ := Aside0.mk (below_drew1 HB.out)
              clear BK105 BK108 HB
              revert n0_ n1_ n2_
              intro BK105 BK108 HB
              have p111 : 0 ≤ ((ji16) : Int) := of_decide_eq_true (G.asm)
              have q111 : (ji16) < (l0_1.length : Int) := of_decide_eq_true (G.asm)
              obtain ⟨ad111, e111, hx111_0, hx111_1⟩ := at_T63 HR0_1.out (ji16) p111 q111
              have hw111_1 := hx111_1
              have hw111_0 := hx111_0
              obtain rfl : ad107 = ad111 := (by injection e111)
              replace hx111_0 := (HB.out.cell (World.block_lt_of_cell? w _ hx111_0)).trans hx111_0
              replace hx111_1 := (HB.out.cell (World.block_lt_of_cell? w _ hx111_1)).trans hx111_1
              replace p111 := eq_true p111
              replace q111 := eq_true q111
              refine start_ (n := 34) (S := fun w' => w'.cell? ⟨gb108, 0, none⟩ = some (.int .i64 ((rd_T63 l0_1 x3_2).f0)) ∧ w'.cell? ⟨gb108, 1, none⟩ = some (.int .i64 ((rd_T63 l0_1 x3_2).f1)) ∧ w'.cell? ⟨gb105, 0, none⟩ = some (.int .i64 a0_0) ∧ w'.cell? ⟨gb105, 1, none⟩ = some (.slice (some ad107) l0_1.length c0_1) ∧ w'.cell? (ad107.add (((ji16)).toNat * 2)) = some (.int .i64 ((rd_T63 l0_1 (ji16)).f0)) ∧ w'.cell? ⟨(ad107.add (((ji16)).toNat * 2)).block, (ad107.add (((ji16)).toNat * 2)).off + 1, none⟩ = some (.int .i64 ((rd_T63 l0_1 (ji16)).f1))) (ds := []) (G.fl 34 0) (c2_10) rfl (c2_10) ⟨(blk_cell BK108.out 0).trans rfl, (blk_cell BK108.out 1).trans rfl, (blk_cell BK105.out 0).trans rfl, (blk_cell BK105.out 1).trans rfl, ((HB.out.cell (World.block_lt_of_cell? w _ hw111_0)).trans hw111_0), ((HB.out.cell (World.block_lt_of_cell? w _ hw111_1)).trans hw111_1)⟩ (fun hHeld => ?_); refine with_tabW spec_NetOk.tab7 spec_NetOk.bits7 (fun HT_ HW_ => ?_)
              generalize w25.drew = w26 at BK105 BK108 HB hx111_0 hx111_1 hHeld ⊢
              refine G.pu 0 (some 27) (G.fl 34 1) ?_
              refine G.pu 2 (some 29) (G.fl 34 5) ?_
              refine G.ta6 1 (some 28) (G.fl 34 7) ?_
              refine G.ta6 3 (some 30) (G.fl 34 15) ?_
              refine G.pu 4 (some 31) (G.fl 34 31) ?_
              refine one_ (i := 5) (N := some 32) (G.fl 34 63) rfl rfl (one_of HT_.out (c2_10)) (by decide) (fun K hK => ?_)
              refine goes_ Try.func60 (c2_10) rfl #[.int .i64 ((rd_T63 l0_1 x3_2).f0), .int .i64 0, .int .i64 (wrap64 (a0_0 - 1))] (by rfl) rfl rfl (G.ar) ?_
              with_reducible refine (spec_l6In.calls ((rd_T63 l0_1 x3_2).f0) 0 (wrap64 (a0_0 - 1)) true _ A11.out).mono ?_
              rintro e w' ⟨rfl, ⟨nd, rfl⟩⟩
              refine ⟨_, rfl, ?_⟩
              refine hK.out _ _ ⟨(blk_cell BK108.out 0).trans rfl, (blk_cell BK108.out 1).trans rfl, (blk_cell BK105.out 0).trans rfl, (blk_cell BK105.out 1).trans rfl, ((HB.out.cell (World.block_lt_of_cell? w _ hw111_0)).trans hw111_0), ((HB.out.cell (World.block_lt_of_cell? w _ hw111_1)).trans hw111_1)⟩ (fun hHeld => ?_)
              clear hK K
              refine G.no (some 32) ?_
              refine G.pu 6 (some 33) (G.fl 34 127) ?_
              refine G.pu 7 (some 34) (G.fl 34 255) ?_
              refine G.pu 8 (some 35) (G.fl 34 511) ?_
              refine G.pu 10 (some 37) (G.fl 34 1535) ?_
              refine G.pu 13 (some 40) (G.fl 34 9727) ?_
              refine G.ta6 9 (some 36) (G.fl 34 10239) ?_
              refine G.ta6 11 (some 38) (G.fl 34 12287) ?_
              refine G.pu 12 (some 39) (G.fl 34 16383) ?_
              refine G.ta6 14 (some 41) (G.fl 34 32767) ?_
              refine G.pu 15 (some 42) (G.fl 34 65535) ?_
              refine one_ (i := 16) (N := some 43) (G.fl 34 131071) rfl rfl (one_of HT_.out (c2_10)) (by decide) (fun K hK => ?_)
              refine goes_ Try.func60 (c2_10) rfl #[.int .i64 ((rd_T63 l0_1 x3_2).f1), .int .i64 (wrap64 (((rd_T63 l0_1 x3_2).f0) + 1)), .int .i64 (wrap64 (a0_0 - 1))] (by rfl) rfl rfl (G.ar) ?_
              with_reducible refine (spec_l6In.calls ((rd_T63 l0_1 x3_2).f1) (wrap64 (((rd_T63 l0_1 x3_2).f0) + 1)) (wrap64 (a0_0 - 1)) true _ A13.out).mono ?_
              rintro e w' ⟨rfl, ⟨nd, rfl⟩⟩
              refine ⟨_, rfl, ?_⟩
              refine hK.out _ _ ⟨(blk_cell BK108.out 0).trans rfl, (blk_cell BK108.out 1).trans rfl, (blk_cell BK105.out 0).trans rfl, (blk_cell BK105.out 1).trans rfl, ((HB.out.cell (World.block_lt_of_cell? w _ hw111_0)).trans hw111_0), ((HB.out.cell (World.block_lt_of_cell? w _ hw111_1)).trans hw111_1)⟩ (fun hHeld => ?_)
              clear hK K
              refine G.no (some 43) ?_
              refine G.pu 17 (some 44) (G.fl 34 262143) ?_
              refine G.pu 18 (some 45) (G.fl 34 524287) ?_
              refine G.pu 19 (some 46) (G.fl 34 1048575) ?_
              refine G.pu 20 (some 47) (G.fl 34 2097151) ?_
              refine G.pu 21 (some 48) (G.fl 34 4194303) ?_
              refine G.pu 22 (some 49) (G.fl 34 8388607) ?_
              refine G.pu 23 (some 50) (G.fl 34 16777215) ?_
              refine G.pu 25 (some 52) (G.fl 34 50331647) ?_
              refine G.pu 26 (some 53) (G.fl 34 117440511) ?_
              refine G.ta6 24 (some 51) (G.fl 34 134217727) ?_
              refine G.pu 27 (some 54) (G.fl 34 268435455) ?_
              refine G.ta6 28 (some 55) (G.fl 34 536870911) ?_
              refine G.ta6 29 (some 56) (G.fl 34 1073741823) ?_
              refine one_ (i := 30) (N := some 57) (G.fl 34 2147483647) rfl rfl (one_of HT_.out (c2_10)) (by decide) (fun K hK => ?_)
              refine goes_ Try.func66 (c2_10) rfl #[.agg #[.int .i64 ((rd_T63 l0_1 (ji16)).f0), .int .i64 ((rd_T63 l0_1 (ji16)).f1)], .agg #[.int .i64 ((rd_T63 l0_1 x3_2).f0), .int .i64 ((rd_T63 l0_1 x3_2).f1)]] (by rfl) rfl rfl (c2_2) ?_
              with_reducible refine (spec_l1Less.calls ((rd_T63 l0_1 (ji16)).f0) ((rd_T63 l0_1 (ji16)).f1) ((rd_T63 l0_1 x3_2).f0) ((rd_T63 l0_1 x3_2).f1) true _ A19.out).mono ?_
              rintro e w27 ⟨rfl, hb⟩
              refine ⟨_, rfl, ?_⟩
              have n0_ := Aside0.mk (blk_below (g := gb105) (o := .cells #[.int .i64 a0_0, .slice (some ad107) l0_1.length c0_1] 29 (0, 0)) (G.cb BK105.out) hb)
              have n1_ := Aside0.mk (blk_below (g := gb108) (o := .cells #[.int .i64 ((rd_T63 l0_1 x3_2).f0), .int .i64 ((rd_T63 l0_1 x3_2).f1)] 63 (0, 0)) (G.cb BK108.out) hb)
              have n2_ := Aside0.mk (below_step (G.cB HB.out) hb)
              clear BK105 BK108 HB
              revert n0_ n1_ n2_
              intro BK105 BK108 HB
              (try clear hb)
              (try clear hb2)
              (try clear hk)
              (try clear hi)
              refine hK.out _ _ ⟨(blk_cell BK108.out 0).trans rfl, (blk_cell BK108.out 1).trans rfl, (blk_cell BK105.out 0).trans rfl, (blk_cell BK105.out 1).trans rfl, ((HB.out.cell (World.block_lt_of_cell? w _ hw111_0)).trans hw111_0), ((HB.out.cell (World.block_lt_of_cell? w _ hw111_1)).trans hw111_1)⟩ (fun hHeld => ?_)
              clear hK K
              refine G.no (some 57) ?_
              refine G.pu 31 (some 58) (G.fl 34 4294967295) ?_
              refine G.pu 32 (some 59) (G.fl 34 8589934591) ?_
              refine G.pu 33 (some 60) (G.fl 34 17179869183) ?_
              refine done_ (done_of HT_.out (c2_10)) ?_
              try go_wp2
              go_roundg k2
              case measure => have := HJ1.out; have := HK2.out; omega
              case rel => exact ⟨(wrap64 (x3_2 + 1)), (c2_8), H', ⟨by have := HJ1.out; have := HK2.out; omega⟩, ⟨G.cb BK105.out⟩, ⟨G.cB HB.out⟩⟩
             ·replace c20 := Bool.eq_false_iff.mpr c20
              subst c20
              have H1 : (some false) = some r := by rw [if_neg (show ¬ (false = true) by decide)] at H; exact H
              clear H
              have H := H1
              clear H1
              obtain rfl := Option.some.inj H
              have hcz28_0 : wr.cell? ⟨gb105, 0, none⟩ = some (.int .i64 a0_0) := (blk_cell BK105.out 0).trans rfl
              have hcz28_1 : wr.cell? ⟨gb105, 1, none⟩ = some (.slice A0_1 l0_1.length c0_1) := (blk_cell BK105.out 1).trans rfl
              have hfz28_0 := blk_frozen BK105.out 0
              have hfz28_1 := blk_frozen BK105.out 1
              have p107 : 0 ≤ (x3_2 : Int) := of_decide_eq_true (G.asm)
              have q107 : x3_2 < (l0_1.length : Int) := of_decide_eq_true (G.asm)
              obtain ⟨ad107, e107, hx107_0, hx107_1⟩ := at_T63 HR0_1.out x3_2 p107 q107
              cases e107
              replace hx107_0 := (HB.out.cell (World.block_lt_of_cell? w _ hx107_0)).trans hx107_0
              replace hx107_1 := (HB.out.cell (World.block_lt_of_cell? w _ hx107_1)).trans hx107_1
              replace p107 := eq_true p107
              replace q107 := eq_true q107
              try go_wp2_with (first | ((with_reducible refine gate_dst (N := 4) rfl ?_); (try (refine gate_guard (by rfl) ?_; dsimp only)); refine G.be 4 #[.int .i64 0, .int .i64 0] 63 ?_; intro gb108 hg w29 hbox hb; have n0_ := Aside0.mk (blk_below (g := gb105) (o := .cells #[.int .i64 a0_0, .slice (some ad107) l0_1.length c0_1] 29 (0, 0)) (G.cb BK105.out) hb); have n1_ := Aside0.mk (below_step (G.cB HB.out) hb); have n2_ := Aside0.mk (hbox); have n3_ := Aside0.mk ((c2_9 : w.heap.size ≤ gb108)); have n4_ := Aside0.mk ((c2_9 : w.heap.size ≤ gb108)); have n5_ := Aside0.mk ((c2_3 : gb105 ≠ gb108)); have n6_ := Aside0.mk ((c2_4 : gb108 ≠ gb105)); clear BK105 HB; revert n0_ n1_ n2_ n3_ n4_ n5_ n6_; intro BK105 HB BK108 GW108 GE108 NB105_108 NB108_105; clear hb hbox hg; have hnb30 := NB108_105.out; have hnc30 := NB105_108.out; have hcz31_0 : w29.cell? ⟨gb108, 0, none⟩ = some (.int .i64 0) := (blk_cell BK108.out 0).trans rfl; have hcz31_1 : w29.cell? ⟨gb108, 1, none⟩ = some (.int .i64 0) := (blk_cell BK108.out 1).trans rfl; have hfz31_0 := blk_frozen BK108.out 0; have hfz31_1 := blk_frozen BK108.out 1))
              have n0_ : Aside0 (((w29.setCell ⟨gb108, 0, none⟩ (.int .i64 ((rd_T63 l0_1 x3_2).f0))).setCell ⟨gb108, 1, none⟩ (.int .i64 ((rd_T63 l0_1 x3_2).f1))).heap[gb105]? = some (.cells #[.int .i64 a0_0, .slice (some ad107) l0_1.length c0_1] 29 (0, 0))) := ⟨c2_1⟩
              have n1_ : Aside0 (((w29.setCell ⟨gb108, 0, none⟩ (.int .i64 ((rd_T63 l0_1 x3_2).f0))).setCell ⟨gb108, 1, none⟩ (.int .i64 ((rd_T63 l0_1 x3_2).f1))).heap[gb108]? = some (.cells #[.int .i64 ((rd_T63 l0_1 x3_2).f0), .int .i64 ((rd_T63 l0_1 x3_2).f1)] 63 (0, 0))) := ⟨c2_0⟩
              have n2_ : Aside0 (Below w.heap.size w ((w29.setCell ⟨gb108, 0, none⟩ (.int .i64 ((rd_T63 l0_1 x3_2).f0))).setCell ⟨gb108, 1, none⟩ (.int .i64 ((rd_T63 l0_1 x3_2).f1)))) := ⟨G.cB HB.out⟩
              (try clear BK105)
              (try clear BK108)
              (try clear HB)
              generalize ((w29.setCell ⟨gb108, 0, none⟩ (.int .i64 ((rd_T63 l0_1 x3_2).f0))).setCell ⟨gb108, 1, none⟩ (.int .i64 ((rd_T63 l0_1 x3_2).f1))) = w32 at n0_ n1_ n2_ ⊢
              revert n0_ n1_ n2_
              intro BK105 BK108 HB
              have n0_ := Aside0.mk (blk_drew BK105.out)
              have n1_ := Aside0.mk (blk_drew BK108.out)
              have n2_ := Aside0.mk (below_drew1 HB.out)
              clear BK105 BK108 HB
              revert n0_ n1_ n2_
              intro BK105 BK108 HB
              have p111 : 0 ≤ ((ji16) : Int) := of_decide_eq_true (G.asm)
              have q111 : (ji16) < (l0_1.length : Int) := of_decide_eq_true (G.asm)
              obtain ⟨ad111, e111, hx111_0, hx111_1⟩ := at_T63 HR0_1.out (ji16) p111 q111
              have hw111_1 := hx111_1
              have hw111_0 := hx111_0
              obtain rfl : ad107 = ad111 := (by injection e111)
              replace hx111_0 := (HB.out.cell (World.block_lt_of_cell? w _ hx111_0)).trans hx111_0
              replace hx111_1 := (HB.out.cell (World.block_lt_of_cell? w _ hx111_1)).trans hx111_1
              replace p111 := eq_true p111
              replace q111 := eq_true q111
              refine start_ (n := 34) (S := fun w' => w'.cell? ⟨gb108, 0, none⟩ = some (.int .i64 ((rd_T63 l0_1 x3_2).f0)) ∧ w'.cell? ⟨gb108, 1, none⟩ = some (.int .i64 ((rd_T63 l0_1 x3_2).f1)) ∧ w'.cell? ⟨gb105, 0, none⟩ = some (.int .i64 a0_0) ∧ w'.cell? ⟨gb105, 1, none⟩ = some (.slice (some ad107) l0_1.length c0_1) ∧ w'.cell? (ad107.add (((ji16)).toNat * 2)) = some (.int .i64 ((rd_T63 l0_1 (ji16)).f0)) ∧ w'.cell? ⟨(ad107.add (((ji16)).toNat * 2)).block, (ad107.add (((ji16)).toNat * 2)).off + 1, none⟩ = some (.int .i64 ((rd_T63 l0_1 (ji16)).f1))) (ds := []) (G.fl 34 0) (c2_10) rfl (c2_10) ⟨(blk_cell BK108.out 0).trans rfl, (blk_cell BK108.out 1).trans rfl, (blk_cell BK105.out 0).trans rfl, (blk_cell BK105.out 1).trans rfl, ((HB.out.cell (World.block_lt_of_cell? w _ hw111_0)).trans hw111_0), ((HB.out.cell (World.block_lt_of_cell? w _ hw111_1)).trans hw111_1)⟩ (fun hHeld => ?_); refine with_tabW spec_NetOk.tab7 spec_NetOk.bits7 (fun HT_ HW_ => ?_)
              generalize w32.drew = w33 at BK105 BK108 HB hx111_0 hx111_1 hHeld ⊢
              refine G.pu 0 (some 27) (G.fl 34 1) ?_
              refine G.pu 2 (some 29) (G.fl 34 5) ?_
              refine G.ta6 1 (some 28) (G.fl 34 7) ?_
              refine G.ta6 3 (some 30) (G.fl 34 15) ?_
              refine G.pu 4 (some 31) (G.fl 34 31) ?_
              refine one_ (i := 5) (N := some 32) (G.fl 34 63) rfl rfl (one_of HT_.out (c2_10)) (by decide) (fun K hK => ?_)
              refine goes_ Try.func60 (c2_10) rfl #[.int .i64 ((rd_T63 l0_1 x3_2).f0), .int .i64 0, .int .i64 (wrap64 (a0_0 - 1))] (by rfl) rfl rfl (G.ar) ?_
              with_reducible refine (spec_l6In.calls ((rd_T63 l0_1 x3_2).f0) 0 (wrap64 (a0_0 - 1)) true _ A11.out).mono ?_
              rintro e w' ⟨rfl, ⟨nd, rfl⟩⟩
              refine ⟨_, rfl, ?_⟩
              refine hK.out _ _ ⟨(blk_cell BK108.out 0).trans rfl, (blk_cell BK108.out 1).trans rfl, (blk_cell BK105.out 0).trans rfl, (blk_cell BK105.out 1).trans rfl, ((HB.out.cell (World.block_lt_of_cell? w _ hw111_0)).trans hw111_0), ((HB.out.cell (World.block_lt_of_cell? w _ hw111_1)).trans hw111_1)⟩ (fun hHeld => ?_)
              clear hK K
              refine G.no (some 32) ?_
              refine G.pu 6 (some 33) (G.fl 34 127) ?_
              refine G.pu 7 (some 34) (G.fl 34 255) ?_
              refine G.pu 8 (some 35) (G.fl 34 511) ?_
              refine G.pu 10 (some 37) (G.fl 34 1535) ?_
              refine G.pu 13 (some 40) (G.fl 34 9727) ?_
              refine G.ta6 9 (some 36) (G.fl 34 10239) ?_
              refine G.ta6 11 (some 38) (G.fl 34 12287) ?_
              refine G.pu 12 (some 39) (G.fl 34 16383) ?_
              refine G.ta6 14 (some 41) (G.fl 34 32767) ?_
              refine G.pu 15 (some 42) (G.fl 34 65535) ?_
              refine one_ (i := 16) (N := some 43) (G.fl 34 131071) rfl rfl (one_of HT_.out (c2_10)) (by decide) (fun K hK => ?_)
              refine goes_ Try.func60 (c2_10) rfl #[.int .i64 ((rd_T63 l0_1 x3_2).f1), .int .i64 (wrap64 (((rd_T63 l0_1 x3_2).f0) + 1)), .int .i64 (wrap64 (a0_0 - 1))] (by rfl) rfl rfl (G.ar) ?_
              with_reducible refine (spec_l6In.calls ((rd_T63 l0_1 x3_2).f1) (wrap64 (((rd_T63 l0_1 x3_2).f0) + 1)) (wrap64 (a0_0 - 1)) true _ A13.out).mono ?_
              rintro e w' ⟨rfl, ⟨nd, rfl⟩⟩
              refine ⟨_, rfl, ?_⟩
              refine hK.out _ _ ⟨(blk_cell BK108.out 0).trans rfl, (blk_cell BK108.out 1).trans rfl, (blk_cell BK105.out 0).trans rfl, (blk_cell BK105.out 1).trans rfl, ((HB.out.cell (World.block_lt_of_cell? w _ hw111_0)).trans hw111_0), ((HB.out.cell (World.block_lt_of_cell? w _ hw111_1)).trans hw111_1)⟩ (fun hHeld => ?_)
              clear hK K
              refine G.no (some 43) ?_
              refine G.pu 17 (some 44) (G.fl 34 262143) ?_
              refine G.pu 18 (some 45) (G.fl 34 524287) ?_
              refine G.pu 19 (some 46) (G.fl 34 1048575) ?_
              refine G.pu 20 (some 47) (G.fl 34 2097151) ?_
              refine G.pu 21 (some 48) (G.fl 34 4194303) ?_
              refine G.pu 22 (some 49) (G.fl 34 8388607) ?_
              refine G.pu 23 (some 50) (G.fl 34 16777215) ?_
              refine G.pu 25 (some 52) (G.fl 34 50331647) ?_
              refine G.pu 26 (some 53) (G.fl 34 117440511) ?_
              refine G.ta6 24 (some 51) (G.fl 34 134217727) ?_
              refine G.pu 27 (some 54) (G.fl 34 268435455) ?_
              refine G.ta6 28 (some 55) (G.fl 34 536870911) ?_
              refine G.ta6 29 (some 56) (G.fl 34 1073741823) ?_
              refine one_ (i := 30) (N := some 57) (G.fl 34 2147483647) rfl rfl (one_of HT_.out (c2_10)) (by decide) (fun K hK => ?_)
              refine goes_ Try.func66 (c2_10) rfl #[.agg #[.int .i64 ((rd_T63 l0_1 (ji16)).f0), .int .i64 ((rd_T63 l0_1 (ji16)).f1)], .agg #[.int .i64 ((rd_T63 l0_1 x3_2).f0), .int .i64 ((rd_T63 l0_1 x3_2).f1)]] (by rfl) rfl rfl (c2_2) ?_
              with_reducible refine (spec_l1Less.calls ((rd_T63 l0_1 (ji16)).f0) ((rd_T63 l0_1 (ji16)).f1) ((rd_T63 l0_1 x3_2).f0) ((rd_T63 l0_1 x3_2).f1) false _ A19.out).mono ?_
              rintro e w34 ⟨rfl, hb⟩
              refine ⟨_, rfl, ?_⟩
              have n0_ := Aside0.mk (blk_below (g := gb105) (o := .cells #[.int .i64 a0_0, .slice (some ad107) l0_1.length c0_1] 29 (0, 0)) (G.cb BK105.out) hb)
              have n1_ := Aside0.mk (blk_below (g := gb108) (o := .cells #[.int .i64 ((rd_T63 l0_1 x3_2).f0), .int .i64 ((rd_T63 l0_1 x3_2).f1)] 63 (0, 0)) (G.cb BK108.out) hb)
              have n2_ := Aside0.mk (below_step (G.cB HB.out) hb)
              clear BK105 BK108 HB
              revert n0_ n1_ n2_
              intro BK105 BK108 HB
              (try clear hb)
              (try clear hb2)
              (try clear hk)
              (try clear hi)
              refine hK.out _ _ ⟨(blk_cell BK108.out 0).trans rfl, (blk_cell BK108.out 1).trans rfl, (blk_cell BK105.out 0).trans rfl, (blk_cell BK105.out 1).trans rfl, ((HB.out.cell (World.block_lt_of_cell? w _ hw111_0)).trans hw111_0), ((HB.out.cell (World.block_lt_of_cell? w _ hw111_1)).trans hw111_1)⟩ (fun hHeld => ?_)
              clear hK K
              refine G.no (some 57) ?_
              refine G.pu 31 (some 58) (G.fl 34 4294967295) ?_
              refine G.pu 32 (some 59) (G.fl 34 8589934591) ?_
              refine G.pu 33 (some 60) (G.fl 34 17179869183) ?_
              refine done_ (done_of HT_.out (c2_10)) ?_
              try go_wp2
              go_ret
              exact ⟨by first | rfl | (simp [errW_none, errW_some] <;> rfl) | (simp only [← hji16]; first | rfl | (simp [errW_none, errW_some] <;> rfl)) | (simp [*, errW_none, errW_some] <;> rfl), G.cB HB.out⟩
            ·rw [if_neg c18] at H
             exact absurd H (by simp)
           ·rw [if_neg c17] at H
            exact absurd H (by simp)
          ·rw [if_neg c15] at H
           have c15b0 : decide (0 < x3_2) = false := decide_eq_false c15
           clear c15
           have H' := Aside0.mk H
           clear H
           have hcz35_0 : wr.cell? ⟨gb105, 0, none⟩ = some (.int .i64 a0_0) := (blk_cell BK105.out 0).trans rfl
           have hcz35_1 : wr.cell? ⟨gb105, 1, none⟩ = some (.slice A0_1 l0_1.length c0_1) := (blk_cell BK105.out 1).trans rfl
           have hfz35_0 := blk_frozen BK105.out 0
           have hfz35_1 := blk_frozen BK105.out 1
           have p107 : 0 ≤ (x3_2 : Int) := of_decide_eq_true (G.asm)
           have q107 : x3_2 < (l0_1.length : Int) := of_decide_eq_true (G.asm)
           obtain ⟨ad107, e107, hx107_0, hx107_1⟩ := at_T63 HR0_1.out x3_2 p107 q107
           cases e107
           replace hx107_0 := (HB.out.cell (World.block_lt_of_cell? w _ hx107_0)).trans hx107_0
           replace hx107_1 := (HB.out.cell (World.block_lt_of_cell? w _ hx107_1)).trans hx107_1
           replace p107 := eq_true p107
           replace q107 := eq_true q107
           try go_wp2_with (first | ((with_reducible refine gate_dst (N := 4) rfl ?_); (try (refine gate_guard (by rfl) ?_; dsimp only)); refine G.be 4 #[.int .i64 0, .int .i64 0] 63 ?_; intro gb108 hg w36 hbox hb; have n0_ := Aside0.mk (blk_below (g := gb105) (o := .cells #[.int .i64 a0_0, .slice (some ad107) l0_1.length c0_1] 29 (0, 0)) (G.cb BK105.out) hb); have n1_ := Aside0.mk (below_step (G.cB HB.out) hb); have n2_ := Aside0.mk (hbox); have n3_ := Aside0.mk ((c2_9 : w.heap.size ≤ gb108)); have n4_ := Aside0.mk ((c2_9 : w.heap.size ≤ gb108)); have n5_ := Aside0.mk ((c2_3 : gb105 ≠ gb108)); have n6_ := Aside0.mk ((c2_4 : gb108 ≠ gb105)); clear BK105 HB; revert n0_ n1_ n2_ n3_ n4_ n5_ n6_; intro BK105 HB BK108 GW108 GE108 NB105_108 NB108_105; clear hb hbox hg; have hnb37 := NB108_105.out; have hnc37 := NB105_108.out; have hcz38_0 : w36.cell? ⟨gb108, 0, none⟩ = some (.int .i64 0) := (blk_cell BK108.out 0).trans rfl; have hcz38_1 : w36.cell? ⟨gb108, 1, none⟩ = some (.int .i64 0) := (blk_cell BK108.out 1).trans rfl; have hfz38_0 := blk_frozen BK108.out 0; have hfz38_1 := blk_frozen BK108.out 1))
           have n0_ : Aside0 (((w36.setCell ⟨gb108, 0, none⟩ (.int .i64 ((rd_T63 l0_1 x3_2).f0))).setCell ⟨gb108, 1, none⟩ (.int .i64 ((rd_T63 l0_1 x3_2).f1))).heap[gb105]? = some (.cells #[.int .i64 a0_0, .slice (some ad107) l0_1.length c0_1] 29 (0, 0))) := ⟨c2_1⟩
           have n1_ : Aside0 (((w36.setCell ⟨gb108, 0, none⟩ (.int .i64 ((rd_T63 l0_1 x3_2).f0))).setCell ⟨gb108, 1, none⟩ (.int .i64 ((rd_T63 l0_1 x3_2).f1))).heap[gb108]? = some (.cells #[.int .i64 ((rd_T63 l0_1 x3_2).f0), .int .i64 ((rd_T63 l0_1 x3_2).f1)] 63 (0, 0))) := ⟨c2_0⟩
           have n2_ : Aside0 (Below w.heap.size w ((w36.setCell ⟨gb108, 0, none⟩ (.int .i64 ((rd_T63 l0_1 x3_2).f0))).setCell ⟨gb108, 1, none⟩ (.int .i64 ((rd_T63 l0_1 x3_2).f1)))) := ⟨G.cB HB.out⟩
           (try clear BK105)
           (try clear BK108)
           (try clear HB)
           generalize ((w36.setCell ⟨gb108, 0, none⟩ (.int .i64 ((rd_T63 l0_1 x3_2).f0))).setCell ⟨gb108, 1, none⟩ (.int .i64 ((rd_T63 l0_1 x3_2).f1))) = w39 at n0_ n1_ n2_ ⊢
           revert n0_ n1_ n2_
           intro BK105 BK108 HB
           have n0_ := Aside0.mk (blk_drew BK105.out)
           have n1_ := Aside0.mk (blk_drew BK108.out)
           have n2_ := Aside0.mk (below_drew1 HB.out)
           clear BK105 BK108 HB
           revert n0_ n1_ n2_
           intro BK105 BK108 HB
           refine start_ (n := 34) (S := fun w' => w'.cell? ⟨gb108, 0, none⟩ = some (.int .i64 ((rd_T63 l0_1 x3_2).f0)) ∧ w'.cell? ⟨gb108, 1, none⟩ = some (.int .i64 ((rd_T63 l0_1 x3_2).f1)) ∧ w'.cell? ⟨gb105, 0, none⟩ = some (.int .i64 a0_0) ∧ w'.cell? ⟨gb105, 1, none⟩ = some (.slice (some ad107) l0_1.length c0_1)) (ds := []) (G.fl 34 0) (c2_10) rfl (c2_10) ⟨(blk_cell BK108.out 0).trans rfl, (blk_cell BK108.out 1).trans rfl, (blk_cell BK105.out 0).trans rfl, (blk_cell BK105.out 1).trans rfl⟩ (fun hHeld => ?_); refine with_tabW spec_NetOk.tab7 spec_NetOk.bits7 (fun HT_ HW_ => ?_)
           generalize w39.drew = w40 at BK105 BK108 HB hHeld ⊢
           refine G.pu 0 (some 27) (G.fl 34 1) ?_
           refine G.pu 2 (some 29) (G.fl 34 5) ?_
           refine G.ta4 1 (some 28) (G.fl 34 7) ?_
           refine G.ta4 3 (some 30) (G.fl 34 15) ?_
           refine G.pu 4 (some 31) (G.fl 34 31) ?_
           refine one_ (i := 5) (N := some 32) (G.fl 34 63) rfl rfl (one_of HT_.out (c2_10)) (by decide) (fun K hK => ?_)
           refine goes_ Try.func60 (c2_10) rfl #[.int .i64 ((rd_T63 l0_1 x3_2).f0), .int .i64 0, .int .i64 (wrap64 (a0_0 - 1))] (by rfl) rfl rfl (G.ar) ?_
           with_reducible refine (spec_l6In.calls ((rd_T63 l0_1 x3_2).f0) 0 (wrap64 (a0_0 - 1)) true _ A11.out).mono ?_
           rintro e w' ⟨rfl, ⟨nd, rfl⟩⟩
           refine ⟨_, rfl, ?_⟩
           refine hK.out _ _ ⟨(blk_cell BK108.out 0).trans rfl, (blk_cell BK108.out 1).trans rfl, (blk_cell BK105.out 0).trans rfl, (blk_cell BK105.out 1).trans rfl⟩ (fun hHeld => ?_)
           clear hK K
           refine G.no (some 32) ?_
           refine G.pu 6 (some 33) (G.fl 34 127) ?_
           refine G.pu 7 (some 34) (G.fl 34 255) ?_
           refine G.pu 8 (some 35) (G.fl 34 511) ?_
           refine G.pu 10 (some 37) (G.fl 34 1535) ?_
           refine G.pu 13 (some 40) (G.fl 34 9727) ?_
           refine G.ta4 9 (some 36) (G.fl 34 10239) ?_
           refine G.ta4 11 (some 38) (G.fl 34 12287) ?_
           refine G.pu 12 (some 39) (G.fl 34 16383) ?_
           refine G.ta4 14 (some 41) (G.fl 34 32767) ?_
           refine G.pu 15 (some 42) (G.fl 34 65535) ?_
           refine one_ (i := 16) (N := some 43) (G.fl 34 131071) rfl rfl (one_of HT_.out (c2_10)) (by decide) (fun K hK => ?_)
           refine goes_ Try.func60 (c2_10) rfl #[.int .i64 ((rd_T63 l0_1 x3_2).f1), .int .i64 (wrap64 (((rd_T63 l0_1 x3_2).f0) + 1)), .int .i64 (wrap64 (a0_0 - 1))] (by rfl) rfl rfl (G.ar) ?_
           with_reducible refine (spec_l6In.calls ((rd_T63 l0_1 x3_2).f1) (wrap64 (((rd_T63 l0_1 x3_2).f0) + 1)) (wrap64 (a0_0 - 1)) true _ A13.out).mono ?_
           rintro e w' ⟨rfl, ⟨nd, rfl⟩⟩
           refine ⟨_, rfl, ?_⟩
           refine hK.out _ _ ⟨(blk_cell BK108.out 0).trans rfl, (blk_cell BK108.out 1).trans rfl, (blk_cell BK105.out 0).trans rfl, (blk_cell BK105.out 1).trans rfl⟩ (fun hHeld => ?_)
           clear hK K
           refine G.no (some 43) ?_
           refine G.pu 17 (some 44) (G.fl 34 262143) ?_
           refine G.pu 18 (some 45) (G.fl 34 524287) ?_
           refine G.pu 19 (some 46) (G.fl 34 1048575) ?_
           refine G.pu 20 (some 47) (G.fl 34 2097151) ?_
           refine G.pu 21 (some 48) (G.fl 34 4194303) ?_
           refine G.pu 22 (some 49) (G.fl 34 8388607) ?_
           refine G.pf 23 (some 50) (G.fl 34 16777215) ?_
           refine G.pf 24 (some 51) (G.fl 34 33554431) ?_
           refine G.pf 25 (some 52) (G.fl 34 67108863) ?_
           refine G.pf 26 (some 53) (G.fl 34 134217727) ?_
           refine G.pf 27 (some 54) (G.fl 34 268435455) ?_
           refine G.pf 28 (some 55) (G.fl 34 536870911) ?_
           refine G.pf 29 (some 56) (G.fl 34 1073741823) ?_
           refine G.pf 30 (some 57) (G.fl 34 2147483647) ?_
           refine G.pf 31 (some 58) (G.fl 34 4294967295) ?_
           refine G.pu 32 (some 59) (G.fl 34 8589934591) ?_
           refine G.pu 33 (some 60) (G.fl 34 17179869183) ?_
           refine done_ (done_of HT_.out (c2_10)) ?_
           try go_wp2
           go_roundg k2
           case measure => have := HJ1.out; have := HK2.out; omega
           case rel => exact ⟨(wrap64 (x3_2 + 1)), (c2_8), H', ⟨by have := HJ1.out; have := HK2.out; omega⟩, ⟨G.cb BK105.out⟩, ⟨G.cB HB.out⟩⟩
         ·replace c14 := Bool.eq_false_iff.mpr c14
          subst c14
          have H1 : (some false) = some r := by rw [if_neg (show ¬ (false = true) by decide)] at H; exact H
          clear H
          have H := H1
          clear H1
          obtain rfl := Option.some.inj H
          have hcz41_0 : wr.cell? ⟨gb105, 0, none⟩ = some (.int .i64 a0_0) := (blk_cell BK105.out 0).trans rfl
          have hcz41_1 : wr.cell? ⟨gb105, 1, none⟩ = some (.slice A0_1 l0_1.length c0_1) := (blk_cell BK105.out 1).trans rfl
          have hfz41_0 := blk_frozen BK105.out 0
          have hfz41_1 := blk_frozen BK105.out 1
          have p107 : 0 ≤ (x3_2 : Int) := of_decide_eq_true (G.asm)
          have q107 : x3_2 < (l0_1.length : Int) := of_decide_eq_true (G.asm)
          obtain ⟨ad107, e107, hx107_0, hx107_1⟩ := at_T63 HR0_1.out x3_2 p107 q107
          cases e107
          replace hx107_0 := (HB.out.cell (World.block_lt_of_cell? w _ hx107_0)).trans hx107_0
          replace hx107_1 := (HB.out.cell (World.block_lt_of_cell? w _ hx107_1)).trans hx107_1
          replace p107 := eq_true p107
          replace q107 := eq_true q107
          try go_wp2_with (first | ((with_reducible refine gate_dst (N := 4) rfl ?_); (try (refine gate_guard (by rfl) ?_; dsimp only)); refine G.be 4 #[.int .i64 0, .int .i64 0] 63 ?_; intro gb108 hg w42 hbox hb; have n0_ := Aside0.mk (blk_below (g := gb105) (o := .cells #[.int .i64 a0_0, .slice (some ad107) l0_1.length c0_1] 29 (0, 0)) (G.cb BK105.out) hb); have n1_ := Aside0.mk (below_step (G.cB HB.out) hb); have n2_ := Aside0.mk (hbox); have n3_ := Aside0.mk ((c2_9 : w.heap.size ≤ gb108)); have n4_ := Aside0.mk ((c2_9 : w.heap.size ≤ gb108)); have n5_ := Aside0.mk ((c2_3 : gb105 ≠ gb108)); have n6_ := Aside0.mk ((c2_4 : gb108 ≠ gb105)); clear BK105 HB; revert n0_ n1_ n2_ n3_ n4_ n5_ n6_; intro BK105 HB BK108 GW108 GE108 NB105_108 NB108_105; clear hb hbox hg; have hnb43 := NB108_105.out; have hnc43 := NB105_108.out; have hcz44_0 : w42.cell? ⟨gb108, 0, none⟩ = some (.int .i64 0) := (blk_cell BK108.out 0).trans rfl; have hcz44_1 : w42.cell? ⟨gb108, 1, none⟩ = some (.int .i64 0) := (blk_cell BK108.out 1).trans rfl; have hfz44_0 := blk_frozen BK108.out 0; have hfz44_1 := blk_frozen BK108.out 1))
          have n0_ : Aside0 (((w42.setCell ⟨gb108, 0, none⟩ (.int .i64 ((rd_T63 l0_1 x3_2).f0))).setCell ⟨gb108, 1, none⟩ (.int .i64 ((rd_T63 l0_1 x3_2).f1))).heap[gb105]? = some (.cells #[.int .i64 a0_0, .slice (some ad107) l0_1.length c0_1] 29 (0, 0))) := ⟨c2_1⟩
          have n1_ : Aside0 (((w42.setCell ⟨gb108, 0, none⟩ (.int .i64 ((rd_T63 l0_1 x3_2).f0))).setCell ⟨gb108, 1, none⟩ (.int .i64 ((rd_T63 l0_1 x3_2).f1))).heap[gb108]? = some (.cells #[.int .i64 ((rd_T63 l0_1 x3_2).f0), .int .i64 ((rd_T63 l0_1 x3_2).f1)] 63 (0, 0))) := ⟨c2_0⟩
          have n2_ : Aside0 (Below w.heap.size w ((w42.setCell ⟨gb108, 0, none⟩ (.int .i64 ((rd_T63 l0_1 x3_2).f0))).setCell ⟨gb108, 1, none⟩ (.int .i64 ((rd_T63 l0_1 x3_2).f1)))) := ⟨G.cB HB.out⟩
          (try clear BK105)
          (try clear BK108)
          (try clear HB)
          generalize ((w42.setCell ⟨gb108, 0, none⟩ (.int .i64 ((rd_T63 l0_1 x3_2).f0))).setCell ⟨gb108, 1, none⟩ (.int .i64 ((rd_T63 l0_1 x3_2).f1))) = w45 at n0_ n1_ n2_ ⊢
          revert n0_ n1_ n2_
          intro BK105 BK108 HB
          have n0_ := Aside0.mk (blk_drew BK105.out)
          have n1_ := Aside0.mk (blk_drew BK108.out)
          have n2_ := Aside0.mk (below_drew1 HB.out)
          clear BK105 BK108 HB
          revert n0_ n1_ n2_
          intro BK105 BK108 HB
          refine start_ (n := 34) (S := fun w' => w'.cell? ⟨gb108, 0, none⟩ = some (.int .i64 ((rd_T63 l0_1 x3_2).f0)) ∧ w'.cell? ⟨gb108, 1, none⟩ = some (.int .i64 ((rd_T63 l0_1 x3_2).f1)) ∧ w'.cell? ⟨gb105, 0, none⟩ = some (.int .i64 a0_0) ∧ w'.cell? ⟨gb105, 1, none⟩ = some (.slice (some ad107) l0_1.length c0_1)) (ds := []) (G.fl 34 0) (c2_10) rfl (c2_10) ⟨(blk_cell BK108.out 0).trans rfl, (blk_cell BK108.out 1).trans rfl, (blk_cell BK105.out 0).trans rfl, (blk_cell BK105.out 1).trans rfl⟩ (fun hHeld => ?_); refine with_tabW spec_NetOk.tab7 spec_NetOk.bits7 (fun HT_ HW_ => ?_)
          generalize w45.drew = w46 at BK105 BK108 HB hHeld ⊢
          refine G.pu 0 (some 27) (G.fl 34 1) ?_
          refine G.pu 2 (some 29) (G.fl 34 5) ?_
          refine G.ta4 1 (some 28) (G.fl 34 7) ?_
          refine G.ta4 3 (some 30) (G.fl 34 15) ?_
          refine G.pu 4 (some 31) (G.fl 34 31) ?_
          refine one_ (i := 5) (N := some 32) (G.fl 34 63) rfl rfl (one_of HT_.out (c2_10)) (by decide) (fun K hK => ?_)
          refine goes_ Try.func60 (c2_10) rfl #[.int .i64 ((rd_T63 l0_1 x3_2).f0), .int .i64 0, .int .i64 (wrap64 (a0_0 - 1))] (by rfl) rfl rfl (G.ar) ?_
          with_reducible refine (spec_l6In.calls ((rd_T63 l0_1 x3_2).f0) 0 (wrap64 (a0_0 - 1)) true _ A11.out).mono ?_
          rintro e w' ⟨rfl, ⟨nd, rfl⟩⟩
          refine ⟨_, rfl, ?_⟩
          refine hK.out _ _ ⟨(blk_cell BK108.out 0).trans rfl, (blk_cell BK108.out 1).trans rfl, (blk_cell BK105.out 0).trans rfl, (blk_cell BK105.out 1).trans rfl⟩ (fun hHeld => ?_)
          clear hK K
          refine G.no (some 32) ?_
          refine G.pu 6 (some 33) (G.fl 34 127) ?_
          refine G.pu 7 (some 34) (G.fl 34 255) ?_
          refine G.pu 8 (some 35) (G.fl 34 511) ?_
          refine G.pu 10 (some 37) (G.fl 34 1535) ?_
          refine G.pu 13 (some 40) (G.fl 34 9727) ?_
          refine G.ta4 9 (some 36) (G.fl 34 10239) ?_
          refine G.ta4 11 (some 38) (G.fl 34 12287) ?_
          refine G.pu 12 (some 39) (G.fl 34 16383) ?_
          refine G.ta4 14 (some 41) (G.fl 34 32767) ?_
          refine G.pu 15 (some 42) (G.fl 34 65535) ?_
          refine one_ (i := 16) (N := some 43) (G.fl 34 131071) rfl rfl (one_of HT_.out (c2_10)) (by decide) (fun K hK => ?_)
          refine goes_ Try.func60 (c2_10) rfl #[.int .i64 ((rd_T63 l0_1 x3_2).f1), .int .i64 (wrap64 (((rd_T63 l0_1 x3_2).f0) + 1)), .int .i64 (wrap64 (a0_0 - 1))] (by rfl) rfl rfl (G.ar) ?_
          with_reducible refine (spec_l6In.calls ((rd_T63 l0_1 x3_2).f1) (wrap64 (((rd_T63 l0_1 x3_2).f0) + 1)) (wrap64 (a0_0 - 1)) false _ A13.out).mono ?_
          rintro e w' ⟨rfl, ⟨nd, rfl⟩⟩
          refine ⟨_, rfl, ?_⟩
          refine hK.out _ _ ⟨(blk_cell BK108.out 0).trans rfl, (blk_cell BK108.out 1).trans rfl, (blk_cell BK105.out 0).trans rfl, (blk_cell BK105.out 1).trans rfl⟩ (fun hHeld => ?_)
          clear hK K
          refine G.no (some 43) ?_
          refine G.pu 17 (some 44) (G.fl 34 262143) ?_
          refine G.pu 18 (some 45) (G.fl 34 524287) ?_
          refine G.pu 19 (some 46) (G.fl 34 1048575) ?_
          refine G.pf 20 (some 47) (G.fl 34 2097151) ?_
          refine G.pf 21 (some 48) (G.fl 34 4194303) ?_
          refine G.pf 22 (some 49) (G.fl 34 8388607) ?_
          refine G.pf 23 (some 50) (G.fl 34 16777215) ?_
          refine G.pf 24 (some 51) (G.fl 34 33554431) ?_
          refine G.pf 25 (some 52) (G.fl 34 67108863) ?_
          refine G.pf 26 (some 53) (G.fl 34 134217727) ?_
          refine G.pf 27 (some 54) (G.fl 34 268435455) ?_
          refine G.pf 28 (some 55) (G.fl 34 536870911) ?_
          refine G.pf 29 (some 56) (G.fl 34 1073741823) ?_
          refine G.pf 30 (some 57) (G.fl 34 2147483647) ?_
          refine G.pf 31 (some 58) (G.fl 34 4294967295) ?_
          refine G.pf 32 (some 59) (G.fl 34 8589934591) ?_
          refine G.pu 33 (some 60) (G.fl 34 17179869183) ?_
          refine done_ (done_of HT_.out (c2_10)) ?_
          try go_wp2
          go_ret
          exact ⟨c2_7, G.cB HB.out⟩
        ·replace c12 := Bool.eq_false_iff.mpr c12
         subst c12
         have H1 : (some false) = some r := by rw [if_neg (show ¬ (false = true) by decide)] at H; exact H
         clear H
         have H := H1
         clear H1
         obtain rfl := Option.some.inj H
         have hcz47_0 : wr.cell? ⟨gb105, 0, none⟩ = some (.int .i64 a0_0) := (blk_cell BK105.out 0).trans rfl
         have hcz47_1 : wr.cell? ⟨gb105, 1, none⟩ = some (.slice A0_1 l0_1.length c0_1) := (blk_cell BK105.out 1).trans rfl
         have hfz47_0 := blk_frozen BK105.out 0
         have hfz47_1 := blk_frozen BK105.out 1
         have p107 : 0 ≤ (x3_2 : Int) := of_decide_eq_true (G.asm)
         have q107 : x3_2 < (l0_1.length : Int) := of_decide_eq_true (G.asm)
         obtain ⟨ad107, e107, hx107_0, hx107_1⟩ := at_T63 HR0_1.out x3_2 p107 q107
         cases e107
         replace hx107_0 := (HB.out.cell (World.block_lt_of_cell? w _ hx107_0)).trans hx107_0
         replace hx107_1 := (HB.out.cell (World.block_lt_of_cell? w _ hx107_1)).trans hx107_1
         replace p107 := eq_true p107
         replace q107 := eq_true q107
         try go_wp2_with (first | ((with_reducible refine gate_dst (N := 4) rfl ?_); (try (refine gate_guard (by rfl) ?_; dsimp only)); refine G.be 4 #[.int .i64 0, .int .i64 0] 63 ?_; intro gb108 hg w48 hbox hb; have n0_ := Aside0.mk (blk_below (g := gb105) (o := .cells #[.int .i64 a0_0, .slice (some ad107) l0_1.length c0_1] 29 (0, 0)) (G.cb BK105.out) hb); have n1_ := Aside0.mk (below_step (G.cB HB.out) hb); have n2_ := Aside0.mk (hbox); have n3_ := Aside0.mk ((c2_9 : w.heap.size ≤ gb108)); have n4_ := Aside0.mk ((c2_9 : w.heap.size ≤ gb108)); have n5_ := Aside0.mk ((c2_3 : gb105 ≠ gb108)); have n6_ := Aside0.mk ((c2_4 : gb108 ≠ gb105)); clear BK105 HB; revert n0_ n1_ n2_ n3_ n4_ n5_ n6_; intro BK105 HB BK108 GW108 GE108 NB105_108 NB108_105; clear hb hbox hg; have hnb49 := NB108_105.out; have hnc49 := NB105_108.out; have hcz50_0 : w48.cell? ⟨gb108, 0, none⟩ = some (.int .i64 0) := (blk_cell BK108.out 0).trans rfl; have hcz50_1 : w48.cell? ⟨gb108, 1, none⟩ = some (.int .i64 0) := (blk_cell BK108.out 1).trans rfl; have hfz50_0 := blk_frozen BK108.out 0; have hfz50_1 := blk_frozen BK108.out 1))
         have n0_ : Aside0 (((w48.setCell ⟨gb108, 0, none⟩ (.int .i64 ((rd_T63 l0_1 x3_2).f0))).setCell ⟨gb108, 1, none⟩ (.int .i64 ((rd_T63 l0_1 x3_2).f1))).heap[gb105]? = some (.cells #[.int .i64 a0_0, .slice (some ad107) l0_1.length c0_1] 29 (0, 0))) := ⟨c2_1⟩
         have n1_ : Aside0 (((w48.setCell ⟨gb108, 0, none⟩ (.int .i64 ((rd_T63 l0_1 x3_2).f0))).setCell ⟨gb108, 1, none⟩ (.int .i64 ((rd_T63 l0_1 x3_2).f1))).heap[gb108]? = some (.cells #[.int .i64 ((rd_T63 l0_1 x3_2).f0), .int .i64 ((rd_T63 l0_1 x3_2).f1)] 63 (0, 0))) := ⟨c2_0⟩
         have n2_ : Aside0 (Below w.heap.size w ((w48.setCell ⟨gb108, 0, none⟩ (.int .i64 ((rd_T63 l0_1 x3_2).f0))).setCell ⟨gb108, 1, none⟩ (.int .i64 ((rd_T63 l0_1 x3_2).f1)))) := ⟨G.cB HB.out⟩
         (try clear BK105)
         (try clear BK108)
         (try clear HB)
         generalize ((w48.setCell ⟨gb108, 0, none⟩ (.int .i64 ((rd_T63 l0_1 x3_2).f0))).setCell ⟨gb108, 1, none⟩ (.int .i64 ((rd_T63 l0_1 x3_2).f1))) = w51 at n0_ n1_ n2_ ⊢
         revert n0_ n1_ n2_
         intro BK105 BK108 HB
         have n0_ := Aside0.mk (blk_drew BK105.out)
         have n1_ := Aside0.mk (blk_drew BK108.out)
         have n2_ := Aside0.mk (below_drew1 HB.out)
         clear BK105 BK108 HB
         revert n0_ n1_ n2_
         intro BK105 BK108 HB
         refine start_ (n := 34) (S := fun w' => w'.cell? ⟨gb108, 0, none⟩ = some (.int .i64 ((rd_T63 l0_1 x3_2).f0)) ∧ w'.cell? ⟨gb108, 1, none⟩ = some (.int .i64 ((rd_T63 l0_1 x3_2).f1)) ∧ w'.cell? ⟨gb105, 0, none⟩ = some (.int .i64 a0_0) ∧ w'.cell? ⟨gb105, 1, none⟩ = some (.slice (some ad107) l0_1.length c0_1)) (ds := []) (G.fl 34 0) (c2_10) rfl (c2_10) ⟨(blk_cell BK108.out 0).trans rfl, (blk_cell BK108.out 1).trans rfl, (blk_cell BK105.out 0).trans rfl, (blk_cell BK105.out 1).trans rfl⟩ (fun hHeld => ?_); refine with_tabW spec_NetOk.tab7 spec_NetOk.bits7 (fun HT_ HW_ => ?_)
         generalize w51.drew = w52 at BK105 BK108 HB hHeld ⊢
         refine G.pu 0 (some 27) (G.fl 34 1) ?_
         refine G.pu 2 (some 29) (G.fl 34 5) ?_
         refine G.ta4 1 (some 28) (G.fl 34 7) ?_
         refine G.ta4 3 (some 30) (G.fl 34 15) ?_
         refine G.pu 4 (some 31) (G.fl 34 31) ?_
         refine one_ (i := 5) (N := some 32) (G.fl 34 63) rfl rfl (one_of HT_.out (c2_10)) (by decide) (fun K hK => ?_)
         refine goes_ Try.func60 (c2_10) rfl #[.int .i64 ((rd_T63 l0_1 x3_2).f0), .int .i64 0, .int .i64 (wrap64 (a0_0 - 1))] (by rfl) rfl rfl (G.ar) ?_
         with_reducible refine (spec_l6In.calls ((rd_T63 l0_1 x3_2).f0) 0 (wrap64 (a0_0 - 1)) false _ A11.out).mono ?_
         rintro e w' ⟨rfl, ⟨nd, rfl⟩⟩
         refine ⟨_, rfl, ?_⟩
         refine hK.out _ _ ⟨(blk_cell BK108.out 0).trans rfl, (blk_cell BK108.out 1).trans rfl, (blk_cell BK105.out 0).trans rfl, (blk_cell BK105.out 1).trans rfl⟩ (fun hHeld => ?_)
         clear hK K
         refine G.no (some 32) ?_
         refine G.pu 6 (some 33) (G.fl 34 127) ?_
         refine G.pu 7 (some 34) (G.fl 34 255) ?_
         refine G.pf 8 (some 35) (G.fl 34 511) ?_
         refine G.pf 9 (some 36) (G.fl 34 1023) ?_
         refine G.pf 10 (some 37) (G.fl 34 2047) ?_
         refine G.pf 11 (some 38) (G.fl 34 4095) ?_
         refine G.pf 12 (some 39) (G.fl 34 8191) ?_
         refine G.pf 13 (some 40) (G.fl 34 16383) ?_
         refine G.pf 14 (some 41) (G.fl 34 32767) ?_
         refine G.pf 15 (some 42) (G.fl 34 65535) ?_
         refine G.pf 16 (some 43) (G.fl 34 131071) ?_
         refine G.pf 17 (some 44) (G.fl 34 262143) ?_
         refine G.pu 18 (some 45) (G.fl 34 524287) ?_
         refine G.pu 19 (some 46) (G.fl 34 1048575) ?_
         refine G.pf 20 (some 47) (G.fl 34 2097151) ?_
         refine G.pf 21 (some 48) (G.fl 34 4194303) ?_
         refine G.pf 22 (some 49) (G.fl 34 8388607) ?_
         refine G.pf 23 (some 50) (G.fl 34 16777215) ?_
         refine G.pf 24 (some 51) (G.fl 34 33554431) ?_
         refine G.pf 25 (some 52) (G.fl 34 67108863) ?_
         refine G.pf 26 (some 53) (G.fl 34 134217727) ?_
         refine G.pf 27 (some 54) (G.fl 34 268435455) ?_
         refine G.pf 28 (some 55) (G.fl 34 536870911) ?_
         refine G.pf 29 (some 56) (G.fl 34 1073741823) ?_
         refine G.pf 30 (some 57) (G.fl 34 2147483647) ?_
         refine G.pf 31 (some 58) (G.fl 34 4294967295) ?_
         refine G.pf 32 (some 59) (G.fl 34 8589934591) ?_
         refine G.pu 33 (some 60) (G.fl 34 17179869183) ?_
         refine done_ (done_of HT_.out (c2_10)) ?_
         try go_wp2
         go_ret
         exact ⟨c2_7, G.cB HB.out⟩
       ·rw [if_neg c10] at H
        exact absurd H (by simp)
      ·rw [if_neg c9] at H
       have c9b0 : decide (x3_2 < (l0_1.length : Int)) = false := decide_eq_false c9
       clear c9
       obtain rfl := Option.some.inj H
       have hcz53_0 : wr.cell? ⟨gb105, 0, none⟩ = some (.int .i64 a0_0) := (blk_cell BK105.out 0).trans rfl
       have hcz53_1 : wr.cell? ⟨gb105, 1, none⟩ = some (.slice A0_1 l0_1.length c0_1) := (blk_cell BK105.out 1).trans rfl
       have hfz53_0 := blk_frozen BK105.out 0
       have hfz53_1 := blk_frozen BK105.out 1
       go_wp2
       go_ret
       exact ⟨c2_7, G.cB HB.out⟩

end Go.Proofs.Ytbkdpnfjcnkoeaa.P
