-- Printed by a program of this session (mp.py, over the kit's print). Not trusted: Lean checks it.
import Derived.Test.YtbkdpnfjcnkoeaaF0
namespace Go.Proofs.Ytbkdpnfjcnkoeaa.P
open Go.RowKit Go.Proofs.YtbkdpnfjcnkoeaaW.PrintWords Go.Proofs.YtbkdpnfjcnkoeaaW.PrintLast Go.Proofs.YtbkdpnfjcnkoeaaW.PrintMore
attribute [local go_sem] max2_int min2_int max_two min_two max_three min_three max_four min_four   -- for this text's walks alone
set_option linter.unusedVariables false
set_option linter.unusedSimpArgs false

theorem c26_0 {p : Prop} (h : p := by first | rfl | (simp; done) | (simp [*]; done)) : p := h
/-! ### laws_loMany: function 29 -/
def laws_loMany.l0 : Nat → Int → Int → Int → Int → List (S63) → Option (Int)
 | 0, _, _, _, _, _ => none
 | k + 1, x1, x5, x6, x653000, x653001 => if x6 < (x653001.length : Int) then (if 0 ≤ x6 then (if ((rd_T63 x653001 x6).f0) = x1 then (laws_loMany.l0 k x1 (wrap64 (x5 + 1)) (wrap64 (x6 + 1)) x653000 x653001) else (if ((rd_T63 x653001 x6).f1) = x1 then (laws_loMany.l0 k x1 (wrap64 (x5 + 1)) (wrap64 (x6 + 1)) x653000 x653001) else (laws_loMany.l0 k x1 x5 (wrap64 (x6 + 1)) x653000 x653001))) else (none)) else (some x5)
def laws_loMany.f (k : Nat) (a0_0 : Int) (l0_1 : List (S63)) (a1 : Int) : Option (Int) := laws_loMany.l0 k a1 0 0 a0_0 l0_1
theorem laws_loMany.mono_l : ∀ k, (∀ y0 y1 y2 y3 y4, LeO (laws_loMany.l0 k y0 y1 y2 y3 y4) (laws_loMany.l0 (k + 1) y0 y1 y2 y3 y4))
 | 0 => fun _ _ _ _ _ r h => by simp [laws_loMany.l0] at h
 | k + 1 => by
  have ih0 := laws_loMany.mono_l k
  ·intro y0 y1 y2 y3 y4
   unfold laws_loMany.l0
   repeat' first
   | (with_reducible exact ih0 _ _ _ _ _)
   | (with_reducible exact LeO.refl _)
   | (with_reducible exact LeO.none _)
   | (with_reducible refine LeO.ite ?_ ?_)
   | (with_reducible refine LeO.bind ?_ (fun _ => ?_))
   | exact ih0 _ _ _ _ _
   | exact LeO.none _
   | refine LeO.ite ?_ ?_
   | refine LeO.bind ?_ (fun _ => ?_)
theorem laws_loMany.mono : ∀ a0 a1 a2 k, LeO (laws_loMany.f k a0 a1 a2) (laws_loMany.f (k + 1) a0 a1 a2) := by
 intro a0 a1 a2 k
 have ih0 := laws_loMany.mono_l k
 unfold laws_loMany.f
 repeat' first
   | (with_reducible exact ih0 _ _ _ _ _)
   | (with_reducible exact LeO.refl _)
   | (with_reducible exact LeO.none _)
   | (with_reducible refine LeO.ite ?_ ?_)
   | (with_reducible refine LeO.bind ?_ (fun _ => ?_))
   | exact ih0 _ _ _ _ _
   | exact LeO.none _
   | refine LeO.ite ?_ ?_
   | refine LeO.bind ?_ (fun _ => ?_)
set_option maxHeartbeats 8000000 in
set_option maxRecDepth 100000 in
theorem laws_loMany.calls (k : Nat) (a0_0 : Int) (A0_1 : Option Addr) (c0_1 : Nat) (l0_1 : List (S63)) (a1 : Int) (r : Int) (w : World) (hr0_1 : Kd.C k63 w A0_1 l0_1.length l0_1) (hc0_1 : l0_1.length ≤ c0_1) (h : laws_loMany.f k a0_0 l0_1 a1 = some r) :
  Calls Try.prog 29 #[.agg #[.int .i64 a0_0, .slice A0_1 l0_1.length c0_1], .int .i64 a1] w fun e w' => e = .returned (.int .i64 r) ∧ Below w.heap.size w w' := by
 have hu29 := Try.underlying29
 have HR0_1 := Aside0.mk hr0_1
 have HC0_1 := Aside0.mk hc0_1
 clear hr0_1 hc0_1
 have HB := Aside0.mk (Below.refl w.heap.size w)
 have H : (laws_loMany.l0 k a1 0 0 a0_0 l0_1) = some r := h
 clear h
 have H' := Aside0.mk H
 clear H
 go_enter Try.func29, Try.ntmps29
 go_wp2_with (first | ((with_reducible refine gate_dst (N := 2) rfl ?_); refine G.be 2 #[.int .i64 a0_0, .slice A0_1 l0_1.length c0_1] 29 ?_; intro gb652 hg w3 hbox hb; have n0_ := Aside0.mk (below_step (G.cB HB.out) hb); have n1_ := Aside0.mk (hbox); have n2_ := Aside0.mk ((by rw [hg]; exact (below_size (G.cB HB.out)) : w.heap.size ≤ gb652)); have n3_ := Aside0.mk ((by rw [hg]; exact (below_size (G.cB HB.out)) : w.heap.size ≤ gb652)); clear HB; revert n0_ n1_ n2_ n3_; intro HB BK652 GW652 GE652; clear hb hbox hg))
 go_loopg [5, 6] k (fun kq v5 v6 w' => ∃ (x5_1 : Int) (x6_1 : Int), v5 = .int .i64 x5_1 ∧ v6 = .int .i64 x6_1 ∧ Aside0 (laws_loMany.l0 kq a1 x5_1 x6_1 a0_0 l0_1 = some r) ∧ Aside0 (kq ≤ k) ∧ Aside0 (w'.heap[gb652]? = some (.cells #[.int .i64 a0_0, (.slice A0_1 l0_1.length c0_1)] 29 (0, 0))) ∧ Aside0 (Below w.heap.size w w'))
 case atStart => exact ⟨(0), (0), (c26_0), (c26_0), H', ⟨Nat.le_refl _⟩, ⟨G.cb BK652.out⟩, ⟨G.cB HB.out⟩⟩
 case round =>
  clear H'
  (try clear c2); (try clear p2)
  obtain ⟨x5_1, x6_1, rfl, rfl, HA, HK1, BK652, HB⟩ := hrel
  cases gk with
  | zero => exact absurd HA.out (by simp [laws_loMany.l0])
  | succ k1 =>
   have H := HA.out
   clear HA
   simp only [laws_loMany.l0] at H
   by_cases c4 : x6_1 < (l0_1.length : Int)
   ·rw [if_pos c4] at H
    have c4b0 : decide (x6_1 < (l0_1.length : Int)) = true := decide_eq_true c4
    clear c4
    by_cases c5 : 0 ≤ x6_1
    ·rw [if_pos c5] at H
     have c5b0 : decide (0 ≤ x6_1) = true := decide_eq_true c5
     clear c5
     by_cases c6 : ((rd_T63 l0_1 x6_1).f0) = a1
     ·rw [if_pos c6] at H
      have c6b0 : (((rd_T63 l0_1 x6_1).f0) == a1) = true := beq_iff_eq.mpr c6
      have c6b1 : (((rd_T63 l0_1 x6_1).f0) != a1) = false := bne_eq_false_iff_eq.mpr c6
      clear c6
      have H' := Aside0.mk H
      clear H
      have hcz7_0 : wr.cell? ⟨gb652, 0, none⟩ = some (.int .i64 a0_0) := (blk_cell BK652.out 0).trans rfl
      have hcz7_1 : wr.cell? ⟨gb652, 1, none⟩ = some (.slice A0_1 l0_1.length c0_1) := (blk_cell BK652.out 1).trans rfl
      have hfz7_0 := blk_frozen BK652.out 0
      have hfz7_1 := blk_frozen BK652.out 1
      have p653 : 0 ≤ (x6_1 : Int) := of_decide_eq_true (G.asm)
      have q653 : x6_1 < (l0_1.length : Int) := of_decide_eq_true (G.asm)
      obtain ⟨ad653, e653, hx653_0, hx653_1⟩ := at_T63 HR0_1.out x6_1 p653 q653
      cases e653
      replace hx653_0 := (HB.out.cell (World.block_lt_of_cell? w _ hx653_0)).trans hx653_0
      replace hx653_1 := (HB.out.cell (World.block_lt_of_cell? w _ hx653_1)).trans hx653_1
      replace p653 := eq_true p653
      replace q653 := eq_true q653
      go_wp2
      go_roundg k1
      case measure => have := HK1.out; omega
      case rel => exact ⟨(wrap64 (x5_1 + 1)), (wrap64 (x6_1 + 1)), (c26_0), (c26_0), H', ⟨by have := HK1.out; omega⟩, ⟨G.cb BK652.out⟩, ⟨G.cB HB.out⟩⟩
     ·rw [if_neg c6] at H
      have c6b0 : (((rd_T63 l0_1 x6_1).f0) == a1) = false := beq_eq_false_iff_ne.mpr c6
      have c6b1 : (((rd_T63 l0_1 x6_1).f0) != a1) = true := bne_iff_ne.mpr c6
      by_cases c8 : ((rd_T63 l0_1 x6_1).f1) = a1
      ·rw [if_pos c8] at H
       have c8b0 : (((rd_T63 l0_1 x6_1).f1) == a1) = true := beq_iff_eq.mpr c8
       have c8b1 : (((rd_T63 l0_1 x6_1).f1) != a1) = false := bne_eq_false_iff_eq.mpr c8
       clear c8
       have H' := Aside0.mk H
       clear H
       have hcz9_0 : wr.cell? ⟨gb652, 0, none⟩ = some (.int .i64 a0_0) := (blk_cell BK652.out 0).trans rfl
       have hcz9_1 : wr.cell? ⟨gb652, 1, none⟩ = some (.slice A0_1 l0_1.length c0_1) := (blk_cell BK652.out 1).trans rfl
       have hfz9_0 := blk_frozen BK652.out 0
       have hfz9_1 := blk_frozen BK652.out 1
       have p653 : 0 ≤ (x6_1 : Int) := of_decide_eq_true (G.asm)
       have q653 : x6_1 < (l0_1.length : Int) := of_decide_eq_true (G.asm)
       obtain ⟨ad653, e653, hx653_0, hx653_1⟩ := at_T63 HR0_1.out x6_1 p653 q653
       cases e653
       replace hx653_0 := (HB.out.cell (World.block_lt_of_cell? w _ hx653_0)).trans hx653_0
       replace hx653_1 := (HB.out.cell (World.block_lt_of_cell? w _ hx653_1)).trans hx653_1
       replace p653 := eq_true p653
       replace q653 := eq_true q653
       have p654 : 0 ≤ (x6_1 : Int) := of_decide_eq_true (G.asm)
       have q654 : x6_1 < (l0_1.length : Int) := of_decide_eq_true (G.asm)
       obtain ⟨ad654, e654, hx654_0, hx654_1⟩ := at_T63 HR0_1.out x6_1 p654 q654
       obtain rfl : ad653 = ad654 := (by injection e654)
       replace hx654_0 := (HB.out.cell (World.block_lt_of_cell? w _ hx654_0)).trans hx654_0
       replace hx654_1 := (HB.out.cell (World.block_lt_of_cell? w _ hx654_1)).trans hx654_1
       replace p654 := eq_true p654
       replace q654 := eq_true q654
       go_wp2
       go_roundg k1
       case measure => have := HK1.out; omega
       case rel => exact ⟨(wrap64 (x5_1 + 1)), (wrap64 (x6_1 + 1)), (c26_0), (c26_0), H', ⟨by have := HK1.out; omega⟩, ⟨G.cb BK652.out⟩, ⟨G.cB HB.out⟩⟩
      ·rw [if_neg c8] at H
       have c8b0 : (((rd_T63 l0_1 x6_1).f1) == a1) = false := beq_eq_false_iff_ne.mpr c8
       have c8b1 : (((rd_T63 l0_1 x6_1).f1) != a1) = true := bne_iff_ne.mpr c8
       have H' := Aside0.mk H
       clear H
       have hcz10_0 : wr.cell? ⟨gb652, 0, none⟩ = some (.int .i64 a0_0) := (blk_cell BK652.out 0).trans rfl
       have hcz10_1 : wr.cell? ⟨gb652, 1, none⟩ = some (.slice A0_1 l0_1.length c0_1) := (blk_cell BK652.out 1).trans rfl
       have hfz10_0 := blk_frozen BK652.out 0
       have hfz10_1 := blk_frozen BK652.out 1
       have p653 : 0 ≤ (x6_1 : Int) := of_decide_eq_true (G.asm)
       have q653 : x6_1 < (l0_1.length : Int) := of_decide_eq_true (G.asm)
       obtain ⟨ad653, e653, hx653_0, hx653_1⟩ := at_T63 HR0_1.out x6_1 p653 q653
       cases e653
       replace hx653_0 := (HB.out.cell (World.block_lt_of_cell? w _ hx653_0)).trans hx653_0
       replace hx653_1 := (HB.out.cell (World.block_lt_of_cell? w _ hx653_1)).trans hx653_1
       replace p653 := eq_true p653
       replace q653 := eq_true q653
       have p654 : 0 ≤ (x6_1 : Int) := of_decide_eq_true (G.asm)
       have q654 : x6_1 < (l0_1.length : Int) := of_decide_eq_true (G.asm)
       obtain ⟨ad654, e654, hx654_0, hx654_1⟩ := at_T63 HR0_1.out x6_1 p654 q654
       obtain rfl : ad653 = ad654 := (by injection e654)
       replace hx654_0 := (HB.out.cell (World.block_lt_of_cell? w _ hx654_0)).trans hx654_0
       replace hx654_1 := (HB.out.cell (World.block_lt_of_cell? w _ hx654_1)).trans hx654_1
       replace p654 := eq_true p654
       replace q654 := eq_true q654
       go_wp2
       go_roundg k1
       case measure => have := HK1.out; omega
       case rel => exact ⟨(x5_1), (wrap64 (x6_1 + 1)), (c26_0), (c26_0), H', ⟨by have := HK1.out; omega⟩, ⟨G.cb BK652.out⟩, ⟨G.cB HB.out⟩⟩
    ·rw [if_neg c5] at H
     exact absurd H (by simp)
   ·rw [if_neg c4] at H
    have c4b0 : decide (x6_1 < (l0_1.length : Int)) = false := decide_eq_false c4
    clear c4
    obtain rfl := Option.some.inj H
    have hcz11_0 : wr.cell? ⟨gb652, 0, none⟩ = some (.int .i64 a0_0) := (blk_cell BK652.out 0).trans rfl
    have hcz11_1 : wr.cell? ⟨gb652, 1, none⟩ = some (.slice A0_1 l0_1.length c0_1) := (blk_cell BK652.out 1).trans rfl
    have hfz11_0 := blk_frozen BK652.out 0
    have hfz11_1 := blk_frozen BK652.out 1
    go_wp2
    go_ret
    exact ⟨by first | rfl | (simp [errW_none, errW_some] <;> rfl) | (simp [*, errW_none, errW_some] <;> rfl), G.cB HB.out⟩

end Go.Proofs.Ytbkdpnfjcnkoeaa.P
