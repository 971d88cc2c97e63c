-- Printed by a program of this session (mp.py, over the kit's print). Not trusted: Lean checks it.
import Derived.Test.YtddadihobjinhaaF0
import Derived.Test.YtddadihobjinhaaF1
import Derived.Test.YtddadihobjinhaaF5
namespace Go.Proofs.Ytddadihobjinhaa.P
open Go.RowKit Go.Proofs.YtddadihobjinhaaW.PrintWords Go.Proofs.YtddadihobjinhaaW.PrintLast Go.Proofs.YtddadihobjinhaaW.PrintMore
attribute [local go_sem] max2_int min2_int max_two min_two max_three min_three max_four min_four   -- for this text's walks alone
set_option linter.unusedVariables false
set_option linter.unusedSimpArgs false

theorem caaN {p : Prop} (h : p := by (with_reducible repeat (first | refine blk_drewN ?_ _ | refine blk_drew ?_ | refine blk_alloc ?_ _)); refine blk_put (cs := #[.int .i64 ((rd_T53 aa ab).f0), .int .i64 0]) ?_ 1 _ rfl; (with_reducible repeat (first | refine blk_drewN ?_ _ | refine blk_drew ?_ | refine blk_alloc ?_ _)); refine blk_put (cs := #[.int .i64 0, .int .i64 0]) ?_ 0 _ rfl; (with_reducible repeat (first | refine blk_drewN ?_ _ | refine blk_drew ?_ | refine blk_alloc ?_ _)); exact aC.out) : p := h
theorem caaO {p : Prop} (h : p := by (with_reducible repeat (first | refine blk_drewN ?_ _ | refine blk_drew ?_ | refine blk_alloc ?_ _)); refine blk_far ?_ aG.out _; (with_reducible repeat (first | refine blk_drewN ?_ _ | refine blk_drew ?_ | refine blk_alloc ?_ _)); refine blk_far ?_ aG.out _; (with_reducible repeat (first | refine blk_drewN ?_ _ | refine blk_drew ?_ | refine blk_alloc ?_ _)); exact ah.out) : p := h
theorem caaP {p : Prop} (h : p := by (with_reducible repeat (first | refine blk_drewN ?_ _ | refine blk_drew ?_ | refine blk_alloc ?_ _)); refine blk_far ?_ aH.out _; (with_reducible repeat (first | refine blk_drewN ?_ _ | refine blk_drew ?_ | refine blk_alloc ?_ _)); refine blk_far ?_ aH.out _; (with_reducible repeat (first | refine blk_drewN ?_ _ | refine blk_drew ?_ | refine blk_alloc ?_ _)); exact aj.out) : p := h
theorem caaQ {p : Prop} (h : p := by (with_reducible repeat (first | refine blk_drewN ?_ _ | refine blk_drew ?_ | refine blk_alloc ?_ _)); refine blk_far ?_ aI.out _; (with_reducible repeat (first | refine blk_drewN ?_ _ | refine blk_drew ?_ | refine blk_alloc ?_ _)); refine blk_far ?_ aI.out _; (with_reducible repeat (first | refine blk_drewN ?_ _ | refine blk_drew ?_ | refine blk_alloc ?_ _)); exact ai.out) : p := h
theorem caaK {p : Prop} (h : p := by (with_reducible repeat (first | apply Kd.R_alloc | apply Kd.R_drewN | apply Kd.R_drew)); exact (Kd.R_mono (Kd.R_far (p := ⟨ak, 1, none⟩) (Kd.R_far (p := ⟨ak, 0, none⟩) (Kd.R_mono af.out (fun k_ hk => (⟨hk, hk.2⟩ : _ ∧ k_ ≠ ak))) (fun _ hk => hk.2) (.int .i64 ((rd_T53 aa ab).f0))) (fun _ hk => hk.2) (.int .i64 ((rd_T53 aa ab).f1))) (fun _ h_ => h_.1))) : p := h
theorem caaR {p : Prop} (h : p := by rw [hg]; exact Nat.ne_of_lt (blk_lt (g := av) (o := .cells #[.int .i64 ag, .slice (some br) aa.length au] 30 (0, 0)) (G.cb ah.out))) : p := h
theorem caaS {p : Prop} (h : p := by rw [hg]; exact Nat.ne_of_gt (blk_lt (g := av) (o := .cells #[.int .i64 ag, .slice (some br) aa.length au] 30 (0, 0)) (G.cb ah.out))) : p := h
theorem caaT {p : Prop} (h : p := by rw [hg]; exact Nat.ne_of_lt (blk_lt (g := av) (o := .cells #[.int .i64 ag, .slice ax aa.length au] 30 (0, 0)) (G.cb ah.out))) : p := h
theorem caaU {p : Prop} (h : p := by rw [hg]; exact Nat.ne_of_gt (blk_lt (g := av) (o := .cells #[.int .i64 ag, .slice ax aa.length au] 30 (0, 0)) (G.cb ah.out))) : p := h
theorem caaM {p : Prop} (h : p := by rw [hg]; exact Nat.ne_of_lt (blk_lt (g := aq) (o := .cells #[.int .i64 0, .slice none 0 0] 30 (0, 0)) (G.cb aj.out))) : p := h
theorem caaL {p : Prop} (h : p := by rw [hg]; exact Nat.ne_of_gt (blk_lt (g := aq) (o := .cells #[.int .i64 0, .slice none 0 0] 30 (0, 0)) (G.cb aj.out))) : p := h
theorem caaJ {p : Prop} (h : p := by first | rfl | (simp [errW_none, errW_some] <;> rfl) | (simp [*, errW_none, errW_some] <;> rfl)) : p := h
theorem caaI {p : Prop} (h : p := by first | rfl | (simp; done) | (simp [*]; done)) : p := h
theorem caaH {p : Prop} (h : p := by rw [hg]; exact (below_size (G.cB HB.out))) : p := h
attribute [local go_sem high] eqA53
/-! ### impl_Net_joined: function 74 -/
def impl_Net_joined.f (k : Nat) (ag : Int) (aa : List (S53)) (a1 : Int) (a2 : Int) : Option (Bool) := (impl_Net_parts.f k ag aa).bind fun al => (if 0 ≤ a1 then (if a1 < (al.length : Int) then (if 0 ≤ a2 then (if a2 < (al.length : Int) then (some ((rd al a1) == (rd al a2))) else (none)) else (none)) else (none)) else (none))
theorem impl_Net_joined.mono : ∀ a0 a1 a2 a3 k, LeO (impl_Net_joined.f k a0 a1 a2 a3) (impl_Net_joined.f (k + 1) a0 a1 a2 a3) := by
 intro a0 a1 a2 a3 k; unfold impl_Net_joined.f
 repeat' first | (with_reducible first | exact impl_Net_parts.mono _ _ _ | exact LeO.refl _ | exact LeO.none _ | refine LeO.ite ?_ ?_ | refine LeO.bind ?_ (fun _ => ?_)) | exact impl_Net_parts.mono _ _ _ | exact LeO.none _ | refine LeO.ite ?_ ?_ | refine LeO.bind ?_ (fun _ => ?_)
set_option maxHeartbeats 8000000 in
set_option maxRecDepth 100000 in
theorem impl_Net_joined.calls (k : Nat) (ag : Int) (ax : Option Addr) (au : Nat) (aa : List (S53)) (a1 : Int) (a2 : Int) (r : Bool) (w : World) (aT : Kd.C k53 w ax aa.length aa) (aU : aa.length ≤ au) (h : impl_Net_joined.f k ag aa a1 a2 = some r) :
  Calls Try.prog 74 #[.agg #[.int .i64 ag, .slice ax aa.length au], .int .i64 a1, .int .i64 a2] w fun e w' => e = .returned (.bool r) ∧ Below w.heap.size w w' := by
 have cO := Try.underlying30; have aV := G.m aT; have bh := G.m aU; clear aT aU; have HB := G.m (Below.refl w.heap.size w); have H : ((impl_Net_parts.f k ag aa).bind fun al => (if 0 ≤ a1 then (if a1 < (al.length : Int) then (if 0 ≤ a2 then (if a2 < (al.length : Int) then (some ((rd al a1) == (rd al a2))) else (none)) else (none)) else (none)) else (none))) = some r := h; clear h; obtain ⟨al, A4, H⟩ := G.bi H; replace H : (if 0 ≤ a1 then (if a1 < (al.length : Int) then (if 0 ≤ a2 then (if a2 < (al.length : Int) then (some ((rd al a1) == (rd al a2))) else (none)) else (none)) else (none)) else (none)) = some r := H
 by_cases c5 : 0 ≤ a1
 ·rw [if_pos c5] at H; have cP : decide (0 ≤ a1) = true := decide_eq_true c5; clear c5
  by_cases c6 : a1 < (al.length : Int)
  ·rw [if_pos c6] at H; have cj : decide (a1 < (al.length : Int)) = true := decide_eq_true c6; clear c6
   by_cases c7 : 0 ≤ a2
   ·rw [if_pos c7] at H; have cQ : decide (0 ≤ a2) = true := decide_eq_true c7; clear c7
    by_cases c8 : a2 < (al.length : Int)
    ·rw [if_pos c8] at H; have fo : decide (a2 < (al.length : Int)) = true := decide_eq_true c8; clear c8; obtain rfl := Option.some.inj H
     go_enter Try.func74, Try.ntmps74
     go_wp2_with (first | ((with_reducible refine G.h 3 rfl ?_); refine G.be 3 #[.int .i64 ag, .slice ax aa.length au] 30 ?_; intro aW hg w9 hbox hb; have n0 := G.bs HB hb; have n1 := G.m (hbox); have n2 := G.m (caaH : w.heap.size ≤ aW); have n3 := G.m (caaH : w.heap.size ≤ aW); clear HB; revert n0 n1 n2 n3; intro HB ay cp cq; clear hb hbox hg; have ⟨bQ, bR, bS, bT⟩ := G.d2 (w := w9) ay) | (go_at_call 64; (with_reducible refine (impl_Net_parts.calls k ag _ _ aa al _ ?side1 ?side2 A4.out).mono ?_); (case side1 => exact G.cC (Kd.C_below aV.out HB.out)); (case side2 => exact bh.out); rintro e dn ⟨cS, rfl, bF, hb⟩; have n0 := G.m (Kd.R_lower bF (below_size (G.cB HB.out))); have n1 := G.bb ay hb; have n2 := G.bs HB hb; clear ay HB; revert n0 n1 n2; intro aD ay HB; (try clear hb bF); obtain ⟨cT, cU, bK⟩ := Kd.R_slice aD.out; subst bK; have aM : 0 ≤ (a1 : Int) := of_decide_eq_true (G.asm); have aN : a1 < (al.length : Int) := of_decide_eq_true (G.asm); obtain ⟨bu, bL, bU⟩ := Kd.at_int (Kd.R_reads' aD.out).2.2 a1 aM aN; cases bL; replace aM := eq_true aM; replace aN := eq_true aN; have aQ : 0 ≤ (a2 : Int) := of_decide_eq_true (G.asm); have aR : a2 < (al.length : Int) := of_decide_eq_true (G.asm); obtain ⟨bv, bM, bV⟩ := Kd.at_int (Kd.R_reads' aD.out).2.2 a2 aQ aR; obtain rfl : bu = bv := (by injection bM); replace aQ := eq_true aQ; replace aR := eq_true aR))
     repeat (go_quiet (first | ((with_reducible refine G.h 3 rfl ?_); refine G.be 3 #[.int .i64 ag, .slice ax aa.length au] 30 ?_; intro aW hg w9 hbox hb; have n0 := G.bs HB hb; have n1 := G.m (hbox); have n2 := G.m (caaH : w.heap.size ≤ aW); have n3 := G.m (caaH : w.heap.size ≤ aW); clear HB; revert n0 n1 n2 n3; intro HB ay cp cq; clear hb hbox hg; have ⟨bQ, bR, bS, bT⟩ := G.d2 (w := w9) ay) | (go_at_call 64; (with_reducible refine (impl_Net_parts.calls k ag _ _ aa al _ ?side1 ?side2 A4.out).mono ?_); (case side1 => exact G.cC (Kd.C_below aV.out HB.out)); (case side2 => exact bh.out); rintro e dn ⟨cS, rfl, bF, hb⟩; have n0 := G.m (Kd.R_lower bF (below_size (G.cB HB.out))); have n1 := G.bb ay hb; have n2 := G.bs HB hb; clear ay HB; revert n0 n1 n2; intro aD ay HB; (try clear hb bF); obtain ⟨cT, cU, bK⟩ := Kd.R_slice aD.out; subst bK; have aM : 0 ≤ (a1 : Int) := of_decide_eq_true (G.asm); have aN : a1 < (al.length : Int) := of_decide_eq_true (G.asm); obtain ⟨bu, bL, bU⟩ := Kd.at_int (Kd.R_reads' aD.out).2.2 a1 aM aN; cases bL; replace aM := eq_true aM; replace aN := eq_true aN; have aQ : 0 ≤ (a2 : Int) := of_decide_eq_true (G.asm); have aR : a2 < (al.length : Int) := of_decide_eq_true (G.asm); obtain ⟨bv, bM, bV⟩ := Kd.at_int (Kd.R_reads' aD.out).2.2 a2 aQ aR; obtain rfl : bu = bv := (by injection bM); replace aQ := eq_true aQ; replace aR := eq_true aR)); try go_wp2_with (first | ((with_reducible refine G.h 3 rfl ?_); refine G.be 3 #[.int .i64 ag, .slice ax aa.length au] 30 ?_; intro aW hg w9 hbox hb; have n0 := G.bs HB hb; have n1 := G.m (hbox); have n2 := G.m (caaH : w.heap.size ≤ aW); have n3 := G.m (caaH : w.heap.size ≤ aW); clear HB; revert n0 n1 n2 n3; intro HB ay cp cq; clear hb hbox hg; have ⟨bQ, bR, bS, bT⟩ := G.d2 (w := w9) ay) | (go_at_call 64; (with_reducible refine (impl_Net_parts.calls k ag _ _ aa al _ ?side1 ?side2 A4.out).mono ?_); (case side1 => exact G.cC (Kd.C_below aV.out HB.out)); (case side2 => exact bh.out); rintro e dn ⟨cS, rfl, bF, hb⟩; have n0 := G.m (Kd.R_lower bF (below_size (G.cB HB.out))); have n1 := G.bb ay hb; have n2 := G.bs HB hb; clear ay HB; revert n0 n1 n2; intro aD ay HB; (try clear hb bF); obtain ⟨cT, cU, bK⟩ := Kd.R_slice aD.out; subst bK; have aM : 0 ≤ (a1 : Int) := of_decide_eq_true (G.asm); have aN : a1 < (al.length : Int) := of_decide_eq_true (G.asm); obtain ⟨bu, bL, bU⟩ := Kd.at_int (Kd.R_reads' aD.out).2.2 a1 aM aN; cases bL; replace aM := eq_true aM; replace aN := eq_true aN; have aQ : 0 ≤ (a2 : Int) := of_decide_eq_true (G.asm); have aR : a2 < (al.length : Int) := of_decide_eq_true (G.asm); obtain ⟨bv, bM, bV⟩ := Kd.at_int (Kd.R_reads' aD.out).2.2 a2 aQ aR; obtain rfl : bu = bv := (by injection bM); replace aQ := eq_true aQ; replace aR := eq_true aR)))
     go_ret
     exact ⟨caaJ, G.cB HB.out⟩
    ·rw [if_neg c8] at H; exact absurd H (by simp)
   ·rw [if_neg c7] at H; exact absurd H (by simp)
  ·rw [if_neg c6] at H; exact absurd H (by simp)
 ·rw [if_neg c5] at H; exact absurd H (by simp)

/-! ### impl_Net_tree: function 50 -/
def impl_Net_tree.l0 : Nat → List (S53) → Int → Int → Int → List (S53) → Option (Int × (List (S53)))
 | 0, _, _, _, _, _ => none
 | k + 1, bN, cW, bw, bj, aZ => if bw < cW then (if 0 ≤ bw then (if bw < (bN.length : Int) then ((impl_Net_joined.f k bj aZ ((rd_T53 bN bw).f0) ((rd_T53 bN bw).f1)).bind fun bZ => (if bZ = true then (impl_Net_tree.l0 k bN cW (wrap64 (bw + 1)) bj aZ) else (if aZ.length < 8796093022208 then (impl_Net_tree.l0 k bN cW (wrap64 (bw + 1)) bj (aZ ++ [(⟨(rd_T53 bN bw).f0, (rd_T53 bN bw).f1⟩ : S53)])) else (none)))) else (none)) else (none)) else (some (bj, aZ))
def impl_Net_tree.f (k : Nat) (ag : Int) (aa : List (S53)) : Option (Int × (List (S53))) := impl_Net_tree.l0 k aa (aa.length : Int) 0 ag (([] : List (S53)))
theorem impl_Net_tree.mono_l : ∀ k, (∀ y0 y1 y2 y3 y4, LeO (impl_Net_tree.l0 k y0 y1 y2 y3 y4) (impl_Net_tree.l0 (k + 1) y0 y1 y2 y3 y4))
 | 0 => fun _ _ _ _ _ r h => by simp [impl_Net_tree.l0] at h
 | k + 1 => by
  have aJ := impl_Net_tree.mono_l k
  ·intro y0 y1 y2 y3 y4; unfold impl_Net_tree.l0
   repeat' first
   | (with_reducible exact aJ _ _ _ _ _)
   | (with_reducible exact impl_Net_joined.mono _ _ _ _ _)
   | (with_reducible exact LeO.refl _)
   | (with_reducible exact LeO.none _)
   | (with_reducible refine LeO.ite ?_ ?_)
   | (with_reducible refine LeO.bind ?_ (fun _ => ?_))
   | exact aJ _ _ _ _ _
   | exact impl_Net_joined.mono _ _ _ _ _
   | exact LeO.none _
   | refine LeO.ite ?_ ?_
   | refine LeO.bind ?_ (fun _ => ?_)
theorem impl_Net_tree.mono : ∀ a0 a1 k, LeO (impl_Net_tree.f k a0 a1) (impl_Net_tree.f (k + 1) a0 a1) := by
 intro a0 a1 k; have aJ := impl_Net_tree.mono_l k; unfold impl_Net_tree.f
 repeat' first | (with_reducible first | exact aJ _ _ _ _ _ | exact impl_Net_joined.mono _ _ _ _ _ | exact LeO.refl _ | exact LeO.none _ | refine LeO.ite ?_ ?_ | refine LeO.bind ?_ (fun _ => ?_)) | exact aJ _ _ _ _ _ | exact impl_Net_joined.mono _ _ _ _ _ | exact LeO.none _ | refine LeO.ite ?_ ?_ | refine LeO.bind ?_ (fun _ => ?_)
set_option maxHeartbeats 8000000 in
set_option maxRecDepth 100000 in
theorem impl_Net_tree.calls (k : Nat) (ag : Int) (ax : Option Addr) (au : Nat) (aa : List (S53)) (r1 : Int) (r2 : List (S53)) (w : World) (aT : Kd.C k53 w ax aa.length aa) (aU : aa.length ≤ au) (h : impl_Net_tree.f k ag aa = some (r1, r2)) :
  Calls Try.prog 50 #[.agg #[.int .i64 ag, .slice ax aa.length au]] w fun e w' => ∃ dp : Value, e = .returned (.agg #[.int .i64 r1, dp]) ∧ Kd.R k53 53 w' w.heap.size (fun _ => True) dp r2 ∧ Below w.heap.size w w' := by
 have cO := Try.underlying30; have ck := Try.underlying53; have aV := G.m aT; have bh := G.m aU; clear aT aU; have HB := G.m (Below.refl w.heap.size w); have H : (impl_Net_tree.l0 k aa (aa.length : Int) 0 ag (([] : List (S53)))) = some (r1, r2) := h; clear h; obtain ⟨b1, bx⟩ : ∃ y_ : List (S53), y_ = (([] : List (S53))) := ⟨_, rfl⟩; replace H : (impl_Net_tree.l0 k aa (aa.length : Int) 0 ag b1) = some (r1, r2) := by first | (rw [bx]; with_reducible exact H) | (have bO := (Option.bind_some _ _).symm.trans H; rw [bx]; with_reducible exact bO) | (have bO := (Option.bind_some _ _).symm.trans H; with_reducible exact bO) | with_reducible exact H | (rw [bx]; exact H) | exact H
 have cr := G.m bx; clear bx; have H' := G.m H; clear H
 go_enter Try.func50, Try.ntmps50
 go_wp2_with (first | ((with_reducible refine G.h 1 rfl ?_); refine G.be 1 #[.int .i64 ag, .slice ax aa.length au] 30 ?_; intro av hg w2 hbox hb; have n0 := G.bs HB hb; have n1 := G.m (hbox); have n2 := G.m (caaH : w.heap.size ≤ av); have n3 := G.m (caaH : w.heap.size ≤ av); clear HB; revert n0 n1 n2 n3; intro HB ah eA eB; clear hb hbox hg) | ((with_reducible refine G.h 2 rfl ?_); refine G.be 2 #[.int .i64 0, .slice none 0 0] 30 ?_; intro aq hg w3 hbox hb; have n0 := G.bb ah hb; have n1 := G.bs HB hb; have n2 := G.m (hbox); have n3 := G.m (caaH : w.heap.size ≤ aq); have n4 := G.m (caaH : w.heap.size ≤ aq); have n5 := G.m (caaT : av ≠ aq); have n6 := G.m (caaU : aq ≠ av); clear ah HB; revert n0 n1 n2 n3 n4 n5 n6; intro ah HB aj eC eD bG bH; clear hb hbox hg; have fp := bG.out; have fq := bH.out; have ⟨b_, ca, cd, ce⟩ := G.d2 (w := w3) ah) | ((with_reducible refine G.h 8 rfl ?_); refine Kd.R_lit k53 _ 53 ?hg (N := 8) ?hd (xs := ([] : List (S53))) (inner := []) (ok := fun _ => True) (okp := fun _ => True) ?hr ?hp (fun _ hk => hk) trivial (Below.refl _ _) (Nat.le_refl _) (by simp) ?_; (case hd => rfl); (case hg => rfl); (case hr => first | (go_simp; done) | (go_simp; rfl)); (case hp => exact (Reps.none _ _)); intro ft w6 cf hb hg_ hnew_; clear hg_ hnew_; (first | rw [← cr.out] at cf | (simp only [Int.reduceToNat] at cf; rw [← cr.out] at cf)); have n0 := G.m (Kd.R_lower cf (below_size (G.cB HB.out))); have n1 := G.bb ah hb; have n2 := G.bb aj hb; have n3 := G.bs HB hb; clear ah aj HB; revert n0 n1 n2 n3; intro bz ah aj HB; clear hb cf; obtain ⟨dq, dr, el⟩ := Kd.R_slice bz.out; subst el) | ((with_reducible refine G.h 3 rfl ?_); refine G.be 3 #[.int .i64 0, .slice none 0 0] 30 ?_; intro ap hg w9 hbox hb; have n0 := G.rb bz hb; have n1 := G.bb ah hb; have n2 := G.bb aj hb; have n3 := G.bs HB hb; have n4 := G.m (hbox); have n5 := G.m (caaH : w.heap.size ≤ ap); have n6 := G.m (caaH : w.heap.size ≤ ap); have n7 := G.m (caaT : av ≠ ap); have n8 := G.m (caaU : ap ≠ av); have n9 := G.m (caaM : aq ≠ ap); have cg := G.m (caaL : ap ≠ aq); clear bz ah aj HB; revert n0 n1 n2 n3 n4 n5 n6 n7 n8 n9 cg; intro bz ah aj HB ai eE eF az aX aA aY; clear hb hbox hg; have eG := aX.out; have eH := az.out; have eI := aY.out; have eJ := aA.out; have ⟨cE, cF, cG, cH⟩ := G.d2 (w := w9) ai; have ⟨cI, cJ, cL, cM⟩ := G.d2 (w := w9) ah))
 go_loopg [13] k (fun kq em w' => ∃ (ab : Int) (ac : List (S53)) (aE : Value), em = .int .i64 ab ∧ Aside0 (impl_Net_tree.l0 kq aa (aa.length : Int) ab ag ac = some (r1, r2)) ∧ Aside0 (kq ≤ k) ∧ Aside0 (Kd.R k53 53 w' w.heap.size (fun _ => True) aE ac) ∧ Aside0 (w'.heap[av]? = some (.cells #[.int .i64 ag, (.slice ax aa.length au)] 30 (0, 0))) ∧ Aside0 (w'.heap[aq]? = some (.cells #[.int .i64 0, (.slice none 0 0)] 30 (0, 0))) ∧ Aside0 (w'.heap[ap]? = some (.cells #[.int .i64 ag, aE] 30 (0, 0))) ∧ Aside0 (Below w.heap.size w w'))
 case atStart => exact ⟨(0), (b1), (.slice dq b1.length dr), (caaI), H', ⟨Nat.le_refl _⟩, ⟨by (with_reducible repeat (first | apply Kd.R_alloc | apply Kd.R_drewN | apply Kd.R_drew)); exact Kd.R_mono (Kd.R_far (p := ⟨ap, 1, none⟩) (Kd.R_far (p := ⟨ap, 0, none⟩) (Kd.R_types bz.out ai.out (by decide)) (fun _ hk => hk.2) (.int .i64 ag)) (fun _ hk => hk.2) (.slice dq b1.length dr)) (fun _ hk => trivial)⟩, ⟨by (with_reducible repeat (first | refine blk_drewN ?_ _ | refine blk_drew ?_ | refine blk_alloc ?_ _)); refine blk_far ?_ az.out _; (with_reducible repeat (first | refine blk_drewN ?_ _ | refine blk_drew ?_ | refine blk_alloc ?_ _)); refine blk_far ?_ az.out _; (with_reducible repeat (first | refine blk_drewN ?_ _ | refine blk_drew ?_ | refine blk_alloc ?_ _)); exact ah.out⟩, ⟨by (with_reducible repeat (first | refine blk_drewN ?_ _ | refine blk_drew ?_ | refine blk_alloc ?_ _)); refine blk_far ?_ aA.out _; (with_reducible repeat (first | refine blk_drewN ?_ _ | refine blk_drew ?_ | refine blk_alloc ?_ _)); refine blk_far ?_ aA.out _; (with_reducible repeat (first | refine blk_drewN ?_ _ | refine blk_drew ?_ | refine blk_alloc ?_ _)); exact aj.out⟩, ⟨by (with_reducible repeat (first | refine blk_drewN ?_ _ | refine blk_drew ?_ | refine blk_alloc ?_ _)); refine blk_put (cs := #[.int .i64 ag, .slice none 0 0]) ?_ 1 _ rfl; (with_reducible repeat (first | refine blk_drewN ?_ _ | refine blk_drew ?_ | refine blk_alloc ?_ _)); refine blk_put (cs := #[.int .i64 0, .slice none 0 0]) ?_ 0 _ rfl; (with_reducible repeat (first | refine blk_drewN ?_ _ | refine blk_drew ?_ | refine blk_alloc ?_ _)); exact ai.out⟩, ⟨G.cB HB.out⟩⟩
 case round =>
  clear H'; (try clear cE cF cI cJ b_ ca cG cH cL cM cd ce); obtain ⟨ab, ac, aE, rfl, HA, bk, af, ah, aj, ai, HB⟩ := hrel; cases gk with
  | zero => exact absurd HA.out (by simp [impl_Net_tree.l0])
  | succ k1 =>
   have H := HA.out; clear HA; simp only [impl_Net_tree.l0] at H
   by_cases bW : ab < (aa.length : Int)
   ·rw [if_pos bW] at H; have df : decide (ab < (aa.length : Int)) = true := decide_eq_true bW; clear bW
    by_cases ct : 0 ≤ ab
    ·rw [if_pos ct] at H; have eK : decide (0 ≤ ab) = true := decide_eq_true ct; clear ct
     by_cases cu : ab < (aa.length : Int)
     ·rw [if_pos cu] at H; have eL : decide (ab < (aa.length : Int)) = true := decide_eq_true cu; clear cu; obtain ⟨bZ, dt, H⟩ := G.bi H; replace H : (if bZ = true then (impl_Net_tree.l0 k1 aa (aa.length : Int) (wrap64 (ab + 1)) ag ac) else (if ac.length < 8796093022208 then (impl_Net_tree.l0 k1 aa (aa.length : Int) (wrap64 (ab + 1)) ag (ac ++ [(⟨(rd_T53 aa ab).f0, (rd_T53 aa ab).f1⟩ : S53)])) else (none))) = some (r1, r2) := H
      by_cases cv : bZ = true
      ·subst cv; have H1 : (impl_Net_tree.l0 k1 aa (aa.length : Int) (wrap64 (ab + 1)) ag ac) = some (r1, r2) := by rw [if_pos rfl] at H; exact H
       clear H; have H := H1; clear H1; have H' := G.m H; clear H; have bl : 0 ≤ (ab : Int) := of_decide_eq_true (G.asm); have bm : ab < (aa.length : Int) := of_decide_eq_true (G.asm); obtain ⟨br, cl, a4, a5⟩ := at_T53 aV.out ab bl bm; cases cl; replace a4 := G.hx HB a4; replace a5 := G.hx HB a5; replace bl := eq_true bl; replace bm := eq_true bm
       go_wp2_with (first | ((with_reducible refine G.h 5 rfl ?_); refine G.be 5 #[.int .i64 0, .int .i64 0] 53 ?_; intro ak hg du hbox hb; have n0 := G.m (Kd.R_below (Kd.R_elderB (G.cR af.out) ak (Nat.le_of_eq hg.symm)) hb); have n1 := G.bb ah hb; have n2 := G.bb aj hb; have n3 := G.bb ai hb; have n4 := G.bs HB hb; have n5 := G.m (hbox); have n6 := G.m (caaH : w.heap.size ≤ ak); have n7 := G.m (caaH : w.heap.size ≤ ak); have n8 := G.m (caaR : av ≠ ak); have n9 := G.m (caaS : ak ≠ av); have cg := G.m (caaM : aq ≠ ak); have cX := G.m (caaL : ak ≠ aq); have cY := G.m ((by rw [hg]; exact Nat.ne_of_lt (blk_lt (g := ap) (o := .cells #[.int .i64 ag, aE] 30 (0, 0)) (G.cb ai.out)) : ap ≠ ak)); have cZ := G.m ((by rw [hg]; exact Nat.ne_of_gt (blk_lt (g := ap) (o := .cells #[.int .i64 ag, aE] 30 (0, 0)) (G.cb ai.out)) : ak ≠ ap)); clear af ah aj ai HB; revert n0 n1 n2 n3 n4 n5 n6 n7 n8 n9 cg cX cY cZ; intro af ah aj ai HB aC dg dh aG a9 aH a_ aI ba; clear hb hbox hg; have eM := a9.out; have eN := aG.out; have eO := a_.out; have eP := aH.out; have eQ := ba.out; have eR := aI.out; have ⟨dF, dG, dH, dI⟩ := G.d2 (w := du) aC; have eS := aX.out; have eT := az.out; have eU := aY.out; have eV := aA.out; have ⟨dJ, dK, dL, dM⟩ := G.d2 (w := du) ai; obtain ⟨cm, b2, dx⟩ := Kd.R_slice af.out; subst dx) | ((with_reducible refine G.f 74 rfl ?_); refine G.gL 22 Try.func74 #[.agg #[.int .i64 ag, .slice cm ac.length b2], .int .i64 ((rd_T53 aa ab).f0), .int .i64 ((rd_T53 aa ab).f1)] ?_; (with_reducible refine (impl_Net_joined.calls k1 ag _ _ ac ((rd_T53 aa ab).f0) ((rd_T53 aa ab).f1) true _ ?side1 ?side2 dt.out).mono ?_); (case side1 => refine (Kd.R_reads' (e := 53) (base := w.heap.size) (ok := fun k_ => (True ∧ k_ ≠ ak)) (n := ac.length) (c := b2) ?_).2.2; exact (caaK)); (case side2 => exact (Kd.R_reads' af.out).2.1); rintro e fw ⟨rfl, hb⟩; refine ⟨_, rfl, ?_⟩; have n0 := G.m (Kd.R_below (caaK) hb); have n1 := G.m (blk_below (g := av) (o := .cells #[.int .i64 ag, .slice (some br) aa.length au] 30 (0, 0)) (caaO) hb); have n2 := G.m (blk_below (g := aq) (o := .cells #[.int .i64 0, .slice none 0 0] 30 (0, 0)) (caaP) hb); have n3 := G.m (blk_below (g := ap) (o := .cells #[.int .i64 ag, .slice cm ac.length b2] 30 (0, 0)) (caaQ) hb); have n4 := G.m (blk_below (g := ak) (o := .cells #[.int .i64 ((rd_T53 aa ab).f0), .int .i64 ((rd_T53 aa ab).f1)] 53 (0, 0)) (caaN) hb); have n5 := G.bs HB hb; clear af ah aj ai aC HB; revert n0 n1 n2 n3 n4 n5; intro af ah aj ai aC HB; (try clear hb)))
       go_roundg k1
       case measure => have := bk.out; omega
       case rel => exact ⟨(wrap64 (ab + 1)), (ac), (.slice cm ac.length b2), (caaI), H', ⟨by have := bk.out; omega⟩, ⟨by (with_reducible repeat (first | apply Kd.R_alloc | apply Kd.R_drewN | apply Kd.R_drew)); exact Kd.R_mono af.out (fun _ hk => trivial)⟩, ⟨G.cb ah.out⟩, ⟨G.cb aj.out⟩, ⟨G.cb ai.out⟩, ⟨G.cB HB.out⟩⟩
      ·replace cv := Bool.eq_false_iff.mpr cv; subst cv; have H1 : (if ac.length < 8796093022208 then (impl_Net_tree.l0 k1 aa (aa.length : Int) (wrap64 (ab + 1)) ag (ac ++ [(⟨(rd_T53 aa ab).f0, (rd_T53 aa ab).f1⟩ : S53)])) else (none)) = some (r1, r2) := by rw [if_neg (show ¬ (false = true) by decide)] at H; exact H
       clear H; have H := H1; clear H1
       by_cases cw : ac.length < 8796093022208
       ·rw [if_pos cw] at H; have di := G.m cw; clear cw; obtain ⟨b3, bA⟩ : ∃ y_ : List (S53), y_ = (ac ++ [(⟨(rd_T53 aa ab).f0, (rd_T53 aa ab).f1⟩ : S53)]) := ⟨_, rfl⟩; replace H : (impl_Net_tree.l0 k1 aa (aa.length : Int) (wrap64 (ab + 1)) ag b3) = some (r1, r2) := by first | (rw [bA]; with_reducible exact H) | (have bO := (Option.bind_some _ _).symm.trans H; rw [bA]; with_reducible exact bO) | (have bO := (Option.bind_some _ _).symm.trans H; with_reducible exact bO) | with_reducible exact H | (rw [bA]; exact H) | exact H
        have dj := G.m bA; clear bA; have H' := G.m H; clear H; have bl : 0 ≤ (ab : Int) := of_decide_eq_true (G.asm); have bm : ab < (aa.length : Int) := of_decide_eq_true (G.asm); obtain ⟨br, cl, a4, a5⟩ := at_T53 aV.out ab bl bm; cases cl; replace a4 := G.hx HB a4; replace a5 := G.hx HB a5; replace bl := eq_true bl; replace bm := eq_true bm
        go_wp2_with (first | ((with_reducible refine G.h 5 rfl ?_); refine G.be 5 #[.int .i64 0, .int .i64 0] 53 ?_; intro ak hg dv hbox hb; have n0 := G.m (Kd.R_below (Kd.R_elderB (G.cR af.out) ak (Nat.le_of_eq hg.symm)) hb); have n1 := G.bb ah hb; have n2 := G.bb aj hb; have n3 := G.bb ai hb; have n4 := G.bs HB hb; have n5 := G.m (hbox); have n6 := G.m (caaH : w.heap.size ≤ ak); have n7 := G.m (caaH : w.heap.size ≤ ak); have n8 := G.m (caaR : av ≠ ak); have n9 := G.m (caaS : ak ≠ av); have cg := G.m (caaM : aq ≠ ak); have cX := G.m (caaL : ak ≠ aq); have cY := G.m ((by rw [hg]; exact Nat.ne_of_lt (blk_lt (g := ap) (o := .cells #[.int .i64 ag, aE] 30 (0, 0)) (G.cb ai.out)) : ap ≠ ak)); have cZ := G.m ((by rw [hg]; exact Nat.ne_of_gt (blk_lt (g := ap) (o := .cells #[.int .i64 ag, aE] 30 (0, 0)) (G.cb ai.out)) : ak ≠ ap)); clear af ah aj ai HB; revert n0 n1 n2 n3 n4 n5 n6 n7 n8 n9 cg cX cY cZ; intro af ah aj ai HB aC dg dh aG a9 aH a_ aI ba; clear hb hbox hg; have eW := a9.out; have eX := aG.out; have eY := a_.out; have eZ := aH.out; have e2 := ba.out; have e3 := aI.out; have ⟨dN, dO, dP, dQ⟩ := G.d2 (w := dv) aC; have e4 := aX.out; have e5 := az.out; have e6 := aY.out; have e7 := aA.out; have ⟨dR, dS, dT, dU⟩ := G.d2 (w := dv) ai; obtain ⟨b4, bP, dy⟩ := Kd.R_slice af.out; subst dy) | ((with_reducible refine G.f 74 rfl ?_); refine G.gL 22 Try.func74 #[.agg #[.int .i64 ag, .slice b4 ac.length bP], .int .i64 ((rd_T53 aa ab).f0), .int .i64 ((rd_T53 aa ab).f1)] ?_; (with_reducible refine (impl_Net_joined.calls k1 ag _ _ ac ((rd_T53 aa ab).f0) ((rd_T53 aa ab).f1) false _ ?side1 ?side2 dt.out).mono ?_); (case side1 => refine (Kd.R_reads' (e := 53) (base := w.heap.size) (ok := fun k_ => (True ∧ k_ ≠ ak)) (n := ac.length) (c := bP) ?_).2.2; exact (caaK)); (case side2 => exact (Kd.R_reads' af.out).2.1); rintro e dw ⟨rfl, hb⟩; refine ⟨_, rfl, ?_⟩; have n0 := G.m (Kd.R_below (caaK) hb); have n1 := G.m (blk_below (g := av) (o := .cells #[.int .i64 ag, .slice (some br) aa.length au] 30 (0, 0)) (caaO) hb); have n2 := G.m (blk_below (g := aq) (o := .cells #[.int .i64 0, .slice none 0 0] 30 (0, 0)) (caaP) hb); have n3 := G.m (blk_below (g := ap) (o := .cells #[.int .i64 ag, .slice b4 ac.length bP] 30 (0, 0)) (caaQ) hb); have n4 := G.m (blk_below (g := ak) (o := .cells #[.int .i64 ((rd_T53 aa ab).f0), .int .i64 ((rd_T53 aa ab).f1)] 53 (0, 0)) (caaN) hb); have n5 := G.bs HB hb; clear af ah aj ai aC HB; revert n0 n1 n2 n3 n4 n5; intro af ah aj ai aC HB; (try clear hb); have ⟨dV, dW, dX, dY⟩ := G.d2 (w := dw) ai; have ⟨dZ, d7, d8, d9⟩ := G.d2 (w := dw) aC) | ((with_reducible refine gate_builtin (b := .append) (xs := #[.tmp 25, .tmp 27]) rfl ?_); at_builtin; refine Kd.R_append k53 (w0 := w) w.heap.size rfl (.tmp 25) (.tmp 27) 28 53 (.agg #[(.int .i64 0), (.int .i64 0)]) 16 rfl Try.underlying28 info53 rfl (by decide) (by omega) (.slice b4 ac.length bP) ac (⟨(rd_T53 aa ab).f0, (rd_T53 aa ab).f1⟩ : S53) [.int .i64 ((rd_T53 aa ab).f0), .int .i64 ((rd_T53 aa ab).f1)] (fun k_ => k_ ≠ ak) (fun _ => False) rfl rfl ?aP (fun _ hk => hk.elim) ?aF ?aO ?aB ?aS ?aL ?_; (case aP => exact k53_mkM _ _ _ (⟨(rd_T53 aa ab).f0, (rd_T53 aa ab).f1⟩ : S53)); (case aB => exact (G.cB HB.out)); (case aF => exact (fun k_ hk => Kd.freshB (g := ak) (o := .cells #[.int .i64 ((rd_T53 aa ab).f0), .int .i64 ((rd_T53 aa ab).f1)] 53 (0, 0)) (G.cb aC.out) k_ hk)); (case aO => exact (by (with_reducible repeat (first | apply Kd.R_alloc | apply Kd.R_drewN | apply Kd.R_drew)); exact Kd.R_mono af.out (fun _ hk => hk.2))); (case aS => exact (below_size (G.cB HB.out))); (case aL => have := di.out; omega); intro fu en ho hb hg hat; rw [← dj.out] at ho; have n0 := G.bg ah hg (Kd.R_ne af.out ah.out (by decide)); have n1 := G.bg aj hg (Kd.R_ne af.out aj.out (by decide)); have n2 := G.bg ai hg (Kd.R_ne af.out ai.out (by decide)); have n3 := G.bg aC hg (Kd.R_away af.out (fun _ hk => hk.2)); have n4 := G.m (hb); have n5 := G.m (ho); clear ah aj ai aC HB af; revert n0 n1 n2 n3 n4 n5; intro ah aj ai aC HB cx; clear ho hb hg hat; obtain ⟨c_, da, dz⟩ := Kd.R_slice cx.out; subst dz; have ⟨d_, ea, eb, ec⟩ := G.d2 (w := en) ai))
        go_roundg k1
        case measure => have := bk.out; omega
        case rel => exact ⟨(wrap64 (ab + 1)), (b3), (.slice c_ b3.length da), (caaI), H', ⟨by have := bk.out; omega⟩, ⟨by (with_reducible repeat (first | apply Kd.R_alloc | apply Kd.R_drewN | apply Kd.R_drew)); exact Kd.R_mono (Kd.R_far (p := ⟨ap, 1, none⟩) (Kd.R_types cx.out ai.out (by decide)) (fun _ hk => hk.2) (.slice c_ b3.length da)) (fun _ hk => trivial)⟩, ⟨by (with_reducible repeat (first | refine blk_drewN ?_ _ | refine blk_drew ?_ | refine blk_alloc ?_ _)); refine blk_far ?_ az.out _; (with_reducible repeat (first | refine blk_drewN ?_ _ | refine blk_drew ?_ | refine blk_alloc ?_ _)); exact ah.out⟩, ⟨by (with_reducible repeat (first | refine blk_drewN ?_ _ | refine blk_drew ?_ | refine blk_alloc ?_ _)); refine blk_far ?_ aA.out _; (with_reducible repeat (first | refine blk_drewN ?_ _ | refine blk_drew ?_ | refine blk_alloc ?_ _)); exact aj.out⟩, ⟨by (with_reducible repeat (first | refine blk_drewN ?_ _ | refine blk_drew ?_ | refine blk_alloc ?_ _)); refine blk_put (cs := #[.int .i64 ag, .slice b4 ac.length bP]) ?_ 1 _ rfl; (with_reducible repeat (first | refine blk_drewN ?_ _ | refine blk_drew ?_ | refine blk_alloc ?_ _)); exact ai.out⟩, ⟨G.cB HB.out⟩⟩
       ·rw [if_neg cw] at H; exact absurd H (by simp)
     ·rw [if_neg cu] at H; exact absurd H (by simp)
    ·rw [if_neg ct] at H; exact absurd H (by simp)
   ·rw [if_neg bW] at H; have df : decide (ab < (aa.length : Int)) = false := decide_eq_false bW; clear bW; simp only [Option.some.injEq, Prod.mk.injEq] at H; obtain ⟨rfl, rfl⟩ := H; have e8 := aX.out; have e9 := az.out; have fa := aY.out; have fb := aA.out; have ⟨ed, ee, ef, eg⟩ := G.d2 (w := wr) ai; have fc := bH.out; have fd := bG.out; have ⟨eh, ei, ej, ek⟩ := G.d2 (w := wr) aj; obtain ⟨db, dc, dA⟩ := Kd.R_slice af.out; subst dA
    go_wp2; refine bodyPost_ret (results_cell_row rfl _ _ aq 30 #[.int .i64 ag, .slice db ac.length dc] (0, 0) _ rfl (by (with_reducible repeat (first | refine blk_drewN ?_ _ | refine blk_drew ?_ | refine blk_alloc ?_ _)); refine blk_put (cs := #[.int .i64 ag, .slice none 0 0]) ?_ 1 _ rfl; (with_reducible repeat (first | refine blk_drewN ?_ _ | refine blk_drew ?_ | refine blk_alloc ?_ _)); refine blk_put (cs := #[.int .i64 0, .slice none 0 0]) ?_ 0 _ rfl; (with_reducible repeat (first | refine blk_drewN ?_ _ | refine blk_drew ?_ | refine blk_alloc ?_ _)); exact aj.out) Try.underlying30 rfl (by kernel_rfl)) rfl ?_; exact ⟨_, by first | rfl | (simp [errW_none, errW_some] <;> rfl) | (simp [*, errW_none, errW_some] <;> rfl), by (with_reducible repeat (first | apply Kd.R_alloc | apply Kd.R_drewN | apply Kd.R_drew)); exact Kd.R_mono (Kd.R_far (p := ⟨aq, 1, none⟩) (Kd.R_far (p := ⟨aq, 0, none⟩) (Kd.R_types af.out aj.out (by decide)) (fun _ hk => hk.2) (.int .i64 ag)) (fun _ hk => hk.2) (.slice db ac.length dc)) (fun _ hk => trivial), G.cB HB.out⟩

/-! ### impl_tie: function 66 -/
def impl_tie.f (a0 : Int) (a1 : Int) : Option (Int × Int) := some (mn a0 a1, mx a0 a1)
set_option maxHeartbeats 8000000 in
set_option maxRecDepth 100000 in
theorem impl_tie.calls (a0 : Int) (a1 : Int) (r1 : Int) (r2 : Int) (w : World) (h : impl_tie.f a0 a1 = some (r1, r2)) :
  Calls Try.prog 66 #[.int .i64 a0, .int .i64 a1] w fun e w' => e = .returned (.agg #[.int .i64 r1, .int .i64 r2]) ∧ Below w.heap.size w w' := by
 have ck := Try.underlying53; have HB := G.m (Below.refl w.heap.size w); have H : (some (mn a0 a1, mx a0 a1)) = some (r1, r2) := h; clear h; obtain ⟨ch, b5⟩ : ∃ j_ : Int, (mn a0 a1) = j_ := ⟨_, rfl⟩; replace H : (some (ch, mx a0 a1)) = some (r1, r2) := by first | (rw [b5] at H; exact H) | (simp only [b5] at H ⊢; exact H)
 have fe : (if a1 < a0 then a1 else a0) = ch := b5; obtain ⟨dd, b6⟩ : ∃ j_ : Int, (mx a0 a1) = j_ := ⟨_, rfl⟩; replace H : (some (ch, dd)) = some (r1, r2) := by first | (rw [b6] at H; exact H) | (simp only [b6] at H ⊢; exact H)
 have ff : (if a0 < a1 then a1 else a0) = dd := b6; simp only [Option.some.injEq, Prod.mk.injEq] at H; obtain ⟨rfl, rfl⟩ := H
 go_enter Try.func66, Try.ntmps66
 go_wp2_with (first | ((with_reducible refine G.h 4 rfl ?_); refine G.be 4 #[.int .i64 0, .int .i64 0] 53 ?_; intro b7 hg w5 hbox hb; have n0 := G.bs HB hb; have n1 := G.m (hbox); have n2 := G.m (caaH : w.heap.size ≤ b7); have n3 := G.m (caaH : w.heap.size ≤ b7); clear HB; revert n0 n1 n2 n3; intro HB cy fg fh; clear hb hbox hg; have ⟨eo, ep, eq, er⟩ := G.d2 (w := w5) cy))
 refine bodyPost_ret (results_cell_row rfl _ _ b7 53 #[.int .i64 ch, .int .i64 dd] (0, 0) _ rfl (by (with_reducible repeat (first | refine blk_drewN ?_ _ | refine blk_drew ?_ | refine blk_alloc ?_ _)); refine blk_put (cs := #[.int .i64 ch, .int .i64 0]) ?_ 1 _ rfl; (with_reducible repeat (first | refine blk_drewN ?_ _ | refine blk_drew ?_ | refine blk_alloc ?_ _)); refine blk_put (cs := #[.int .i64 0, .int .i64 0]) ?_ 0 _ rfl; (with_reducible repeat (first | refine blk_drewN ?_ _ | refine blk_drew ?_ | refine blk_alloc ?_ _)); exact cy.out) Try.underlying53 rfl (by kernel_rfl)) rfl ?_; exact ⟨by first | rfl | (simp [errW_none, errW_some] <;> rfl) | (simp only [← b5, ← b6]; first | rfl | (simp [errW_none, errW_some] <;> rfl)) | (simp [*, errW_none, errW_some] <;> rfl), G.cB HB.out⟩

/-! ### slices_Index_impl_Tie_impl_Tie: function 96 -/
def slices_Index_impl_Tie_impl_Tie.l0 : Nat → List (S53) → Int → Int → Int → Int → Option (Int)
 | 0, _, _, _, _, _ => none
 | k + 1, x0, x7, x8, bX, bY => if x8 < x7 then (if 0 ≤ x8 then (if x8 < (x0.length : Int) then (if (bX == ((rd_T53 x0 x8).f0) && (bY == ((rd_T53 x0 x8).f1))) = true then (some x8) else (slices_Index_impl_Tie_impl_Tie.l0 k x0 x7 (wrap64 (x8 + 1)) bX bY)) else (none)) else (none)) else (some (-1))
def slices_Index_impl_Tie_impl_Tie.f (k : Nat) (l0 : List (S53)) (am : Int) (ao : Int) : Option (Int) := slices_Index_impl_Tie_impl_Tie.l0 k l0 (l0.length : Int) 0 am ao
theorem slices_Index_impl_Tie_impl_Tie.mono_l : ∀ k, (∀ y0 y1 y2 y3 y4, LeO (slices_Index_impl_Tie_impl_Tie.l0 k y0 y1 y2 y3 y4) (slices_Index_impl_Tie_impl_Tie.l0 (k + 1) y0 y1 y2 y3 y4))
 | 0 => fun _ _ _ _ _ r h => by simp [slices_Index_impl_Tie_impl_Tie.l0] at h
 | k + 1 => by
  have aJ := slices_Index_impl_Tie_impl_Tie.mono_l k
  ·intro y0 y1 y2 y3 y4; unfold slices_Index_impl_Tie_impl_Tie.l0
   repeat' first
   | (with_reducible exact aJ _ _ _ _ _)
   | (with_reducible exact LeO.refl _)
   | (with_reducible exact LeO.none _)
   | (with_reducible refine LeO.ite ?_ ?_)
   | (with_reducible refine LeO.bind ?_ (fun _ => ?_))
   | exact aJ _ _ _ _ _
   | exact LeO.none _
   | refine LeO.ite ?_ ?_
   | refine LeO.bind ?_ (fun _ => ?_)
theorem slices_Index_impl_Tie_impl_Tie.mono : ∀ a0 a1 a2 k, LeO (slices_Index_impl_Tie_impl_Tie.f k a0 a1 a2) (slices_Index_impl_Tie_impl_Tie.f (k + 1) a0 a1 a2) := by
 intro a0 a1 a2 k; have aJ := slices_Index_impl_Tie_impl_Tie.mono_l k; unfold slices_Index_impl_Tie_impl_Tie.f
 repeat' first | (with_reducible first | exact aJ _ _ _ _ _ | exact LeO.refl _ | exact LeO.none _ | refine LeO.ite ?_ ?_ | refine LeO.bind ?_ (fun _ => ?_)) | exact aJ _ _ _ _ _ | exact LeO.none _ | refine LeO.ite ?_ ?_ | refine LeO.bind ?_ (fun _ => ?_)
set_option maxHeartbeats 8000000 in
set_option maxRecDepth 100000 in
theorem slices_Index_impl_Tie_impl_Tie.calls (k : Nat) (A0 : Option Addr) (c0 : Nat) (l0 : List (S53)) (am : Int) (ao : Int) (r : Int) (w : World) (bc : Kd.C k53 w A0 l0.length l0) (bd : l0.length ≤ c0) (h : slices_Index_impl_Tie_impl_Tie.f k l0 am ao = some r) :
  Calls Try.prog 96 #[.slice A0 l0.length c0, .agg #[.int .i64 am, .int .i64 ao]] w fun e w' => e = .returned (.int .i64 r) ∧ Below w.heap.size w w' := by
 have ck := Try.underlying53; have bB := G.m bc; have ci := G.m bd; clear bc bd; have HB := G.m (Below.refl w.heap.size w); have H : (slices_Index_impl_Tie_impl_Tie.l0 k l0 (l0.length : Int) 0 am ao) = some r := h; clear h; have H' := G.m H; clear H
 go_enter Try.func96, Try.ntmps96
 go_wp2_with (first | ((with_reducible refine G.h 3 rfl ?_); refine G.be 3 #[.int .i64 am, .int .i64 ao] 53 ?_; intro aK hg w3 hbox hb; have n0 := G.bs HB hb; have n1 := G.m (hbox); have n2 := G.m (caaH : w.heap.size ≤ aK); have n3 := G.m (caaH : w.heap.size ≤ aK); clear HB; revert n0 n1 n2 n3; intro HB a8 cz cA; clear hb hbox hg))
 repeat (go_quiet (first | ((with_reducible refine G.h 3 rfl ?_); refine G.be 3 #[.int .i64 am, .int .i64 ao] 53 ?_; intro aK hg w3 hbox hb; have n0 := G.bs HB hb; have n1 := G.m (hbox); have n2 := G.m (caaH : w.heap.size ≤ aK); have n3 := G.m (caaH : w.heap.size ≤ aK); clear HB; revert n0 n1 n2 n3; intro HB a8 cz cA; clear hb hbox hg)); try go_wp2_with (first | ((with_reducible refine G.h 3 rfl ?_); refine G.be 3 #[.int .i64 am, .int .i64 ao] 53 ?_; intro aK hg w3 hbox hb; have n0 := G.bs HB hb; have n1 := G.m (hbox); have n2 := G.m (caaH : w.heap.size ≤ aK); have n3 := G.m (caaH : w.heap.size ≤ aK); clear HB; revert n0 n1 n2 n3; intro HB a8 cz cA; clear hb hbox hg)))
 go_loopg [8] k (fun kq v8 w' => ∃ (ae : Int), v8 = .int .i64 ae ∧ Aside0 (slices_Index_impl_Tie_impl_Tie.l0 kq l0 (l0.length : Int) ae am ao = some r) ∧ Aside0 (kq ≤ k) ∧ Aside0 (w'.heap[aK]? = some (.cells #[.int .i64 am, .int .i64 ao] 53 (0, 0))) ∧ Aside0 (Below w.heap.size w w'))
 case atStart => exact ⟨(0), (caaI), H', ⟨Nat.le_refl _⟩, ⟨G.cb a8.out⟩, ⟨G.cB HB.out⟩⟩
 case round =>
  clear H'; try clear p2
  obtain ⟨ae, rfl, HA, bk, a8, HB⟩ := hrel; cases gk with
  | zero => exact absurd HA.out (by simp [slices_Index_impl_Tie_impl_Tie.l0])
  | succ k1 =>
   have H := HA.out; clear HA; simp only [slices_Index_impl_Tie_impl_Tie.l0] at H
   by_cases c4 : ae < (l0.length : Int)
   ·rw [if_pos c4] at H; have de : decide (ae < (l0.length : Int)) = true := decide_eq_true c4; clear c4
    by_cases c5 : 0 ≤ ae
    ·rw [if_pos c5] at H; have cP : decide (0 ≤ ae) = true := decide_eq_true c5; clear c5
     by_cases c6 : ae < (l0.length : Int)
     ·rw [if_pos c6] at H; have cj : decide (ae < (l0.length : Int)) = true := decide_eq_true c6; clear c6
      by_cases c7 : (am == ((rd_T53 l0 ae).f0) && (ao == ((rd_T53 l0 ae).f1))) = true
      ·rw [if_pos c7] at H; have cQ : (am == ((rd_T53 l0 ae).f0) && (ao == ((rd_T53 l0 ae).f1))) = true := c7; (try (have dB : decide (am = ((rd_T53 l0 ae).f0) && (ao == ((rd_T53 l0 ae).f1))) = true := by simpa using c7)); (try (have dC : (am == ((rd_T53 l0 ae).f0) && (ao == ((rd_T53 l0 ae).f1))) = true := by simpa using c7)); clear c7; obtain rfl := Option.some.inj H; have ⟨es, et, eu, ev⟩ := G.d2 (w := wr) a8; have bn : 0 ≤ (ae : Int) := of_decide_eq_true (G.asm); have bo : ae < (l0.length : Int) := of_decide_eq_true (G.asm); obtain ⟨dk, cn, a6, a7⟩ := at_T53 bB.out ae bn bo; cases cn; replace a6 := G.hx HB a6; replace a7 := G.hx HB a7; replace bn := eq_true bn; replace bo := eq_true bo
       go_wp2
       repeat (go_quiet (fail); try go_wp2)
       go_ret
       exact ⟨caaJ, G.cB HB.out⟩
      ·rw [if_neg c7] at H; have cQ : (am == ((rd_T53 l0 ae).f0) && (ao == ((rd_T53 l0 ae).f1))) = false := by simpa using c7
       (try (have dB : decide (am = ((rd_T53 l0 ae).f0) && (ao == ((rd_T53 l0 ae).f1))) = false := by simpa using c7)); (try (have dC : (am == ((rd_T53 l0 ae).f0) && (ao == ((rd_T53 l0 ae).f1))) = false := by simpa using c7)); (try (have fv : ¬ (am = ((rd_T53 l0 ae).f0) && (ao == ((rd_T53 l0 ae).f1))) := by simpa using c7)); clear c7; have H' := G.m H; clear H; have ⟨ew, ex, ey, ez⟩ := G.d2 (w := wr) a8; have bn : 0 ≤ (ae : Int) := of_decide_eq_true (G.asm); have bo : ae < (l0.length : Int) := of_decide_eq_true (G.asm); obtain ⟨dk, cn, a6, a7⟩ := at_T53 bB.out ae bn bo; cases cn; replace a6 := G.hx HB a6; replace a7 := G.hx HB a7; replace bn := eq_true bn; replace bo := eq_true bo
       go_wp2
       repeat (go_quiet (fail); try go_wp2)
       go_roundg k1
       case measure => have := bk.out; omega
       case rel => exact ⟨(wrap64 (ae + 1)), (caaI), H', ⟨by have := bk.out; omega⟩, ⟨G.cb a8.out⟩, ⟨G.cB HB.out⟩⟩
     ·rw [if_neg c6] at H; exact absurd H (by simp)
    ·rw [if_neg c5] at H; exact absurd H (by simp)
   ·rw [if_neg c4] at H; have de : decide (ae < (l0.length : Int)) = false := decide_eq_false c4; clear c4; obtain rfl := Option.some.inj H
    go_wp2
    repeat (go_quiet (fail); try go_wp2)
    go_ret
    exact ⟨caaJ, G.cB HB.out⟩

/-! ### slices_Contains_impl_Tie_impl_Tie: function 83 -/
def slices_Contains_impl_Tie_impl_Tie.f (k : Nat) (l0 : List (S53)) (am : Int) (ao : Int) : Option (Bool) := (slices_Index_impl_Tie_impl_Tie.f k l0 am ao).bind fun bD => (some (decide (bD ≥ 0)))
theorem slices_Contains_impl_Tie_impl_Tie.mono : ∀ a0 a1 a2 k, LeO (slices_Contains_impl_Tie_impl_Tie.f k a0 a1 a2) (slices_Contains_impl_Tie_impl_Tie.f (k + 1) a0 a1 a2) := by
 intro a0 a1 a2 k; unfold slices_Contains_impl_Tie_impl_Tie.f
 repeat' first | (with_reducible first | exact slices_Index_impl_Tie_impl_Tie.mono _ _ _ _ | exact LeO.refl _ | exact LeO.none _ | refine LeO.ite ?_ ?_ | refine LeO.bind ?_ (fun _ => ?_)) | exact slices_Index_impl_Tie_impl_Tie.mono _ _ _ _ | exact LeO.none _ | refine LeO.ite ?_ ?_ | refine LeO.bind ?_ (fun _ => ?_)
set_option maxHeartbeats 8000000 in
set_option maxRecDepth 100000 in
theorem slices_Contains_impl_Tie_impl_Tie.calls (k : Nat) (A0 : Option Addr) (c0 : Nat) (l0 : List (S53)) (am : Int) (ao : Int) (r : Bool) (w : World) (bc : Kd.C k53 w A0 l0.length l0) (bd : l0.length ≤ c0) (h : slices_Contains_impl_Tie_impl_Tie.f k l0 am ao = some r) :
  Calls Try.prog 83 #[.slice A0 l0.length c0, .agg #[.int .i64 am, .int .i64 ao]] w fun e w' => e = .returned (.bool r) ∧ Below w.heap.size w w' := by
 have ck := Try.underlying53; have bB := G.m bc; have ci := G.m bd; clear bc bd; have HB := G.m (Below.refl w.heap.size w); have H : ((slices_Index_impl_Tie_impl_Tie.f k l0 am ao).bind fun bD => (some (decide (bD ≥ 0)))) = some r := h; clear h; obtain ⟨bD, A3, H⟩ := G.bi H; replace H : (some (decide (bD ≥ 0))) = some r := H; obtain rfl := Option.some.inj H
 go_enter Try.func83, Try.ntmps83
 go_wp2_with (first | ((with_reducible refine G.h 3 rfl ?_); refine G.be 3 #[.int .i64 am, .int .i64 ao] 53 ?_; intro cD hg w4 hbox hb; have n0 := G.bs HB hb; have n1 := G.m (hbox); have n2 := G.m (caaH : w.heap.size ≤ cD); have n3 := G.m (caaH : w.heap.size ≤ cD); clear HB; revert n0 n1 n2 n3; intro HB bI fi fj; clear hb hbox hg; have ⟨b_, ca, cd, ce⟩ := G.d2 (w := w4) bI) | ((with_reducible refine G.f 96 rfl ?_); refine G.gL 7 Try.func96 #[.slice A0 l0.length c0, .agg #[.int .i64 am, .int .i64 ao]] ?_; (with_reducible refine (slices_Index_impl_Tie_impl_Tie.calls k _ _ l0 am ao bD _ ?side1 ?side2 A3.out).mono ?_); (case side1 => exact G.cC (Kd.C_below bB.out HB.out)); (case side2 => exact ci.out); rintro e w6 ⟨rfl, hb⟩; refine ⟨_, rfl, ?_⟩; have n0 := G.bb bI hb; have n1 := G.bs HB hb; clear bI HB; revert n0 n1; intro bI HB; (try clear hb)))
 go_ret
 exact ⟨caaJ, G.cB HB.out⟩

/-! ### impl_Net_has: function 63 -/
def impl_Net_has.f (k : Nat) (ag : Int) (aa : List (S53)) (a1 : Int) (a2 : Int) : Option (Bool) := (impl_tie.f a1 a2).bind fun bC => ((slices_Contains_impl_Tie_impl_Tie.f k aa bC.1 bC.2).bind fun bf => (some bf))
theorem impl_Net_has.mono : ∀ a0 a1 a2 a3 k, LeO (impl_Net_has.f k a0 a1 a2 a3) (impl_Net_has.f (k + 1) a0 a1 a2 a3) := by
 intro a0 a1 a2 a3 k; unfold impl_Net_has.f
 repeat' first | (with_reducible first | exact slices_Contains_impl_Tie_impl_Tie.mono _ _ _ _ | exact LeO.refl _ | exact LeO.none _ | refine LeO.ite ?_ ?_ | refine LeO.bind ?_ (fun _ => ?_)) | exact slices_Contains_impl_Tie_impl_Tie.mono _ _ _ _ | exact LeO.none _ | refine LeO.ite ?_ ?_ | refine LeO.bind ?_ (fun _ => ?_)
set_option maxHeartbeats 8000000 in
set_option maxRecDepth 100000 in
theorem impl_Net_has.calls (k : Nat) (ag : Int) (ax : Option Addr) (au : Nat) (aa : List (S53)) (a1 : Int) (a2 : Int) (r : Bool) (w : World) (aT : Kd.C k53 w ax aa.length aa) (aU : aa.length ≤ au) (h : impl_Net_has.f k ag aa a1 a2 = some r) :
  Calls Try.prog 63 #[.agg #[.int .i64 ag, .slice ax aa.length au], .int .i64 a1, .int .i64 a2] w fun e w' => e = .returned (.bool r) ∧ Below w.heap.size w w' := by
 have cO := Try.underlying30; have aV := G.m aT; have bh := G.m aU; clear aT aU; have HB := G.m (Below.refl w.heap.size w); have H : ((impl_tie.f a1 a2).bind fun bC => ((slices_Contains_impl_Tie_impl_Tie.f k aa bC.1 bC.2).bind fun bf => (some bf))) = some r := h; clear h; obtain ⟨⟨b8, b9⟩, A4, H⟩ := G.bi H; replace H : ((slices_Contains_impl_Tie_impl_Tie.f k aa b8 b9).bind fun bf => (some bf)) = some r := H; obtain ⟨bf, A5, H⟩ := G.bi H; replace H : (some bf) = some r := H; obtain rfl := Option.some.inj H
 go_enter Try.func63, Try.ntmps63; try go_wp2_with (first | ((with_reducible refine G.h 3 rfl ?_); refine G.be 3 #[.int .i64 ag, .slice ax aa.length au] 30 ?_; intro bJ hg w6 hbox hb; have n0 := G.bs HB hb; have n1 := G.m (hbox); have n2 := G.m (caaH : w.heap.size ≤ bJ); have n3 := G.m (caaH : w.heap.size ≤ bJ); clear HB; revert n0 n1 n2 n3; intro HB aw fk fm; clear hb hbox hg))
 have n0 := G.m (blk_drew aw.out); have n1 := G.m (below_drew1 HB.out); clear aw HB; revert n0 n1; intro aw HB; refine start_ (n := 7) (S := fun w' => w'.cell? ⟨bJ, 0, none⟩ = some (.int .i64 ag) ∧ w'.cell? ⟨bJ, 1, none⟩ = some (.slice ax aa.length au)) (ds := []) (G.fl 7 0) (by kernel_rfl) rfl (by kernel_rfl) ⟨G.z aw 0, G.z aw 1⟩ (fun hHeld => ?_); generalize w6.drew = w7 at aw HB hHeld ⊢; refine G.pu 0 7 1 ?_; refine G.pu 2 9 5 ?_; refine G.pu 3 10 13 ?_; refine G.ta2 1 8 15 ?_; refine one_ (i := 4) (N := some 11) (G.fl 7 31) rfl rfl (by kernel_rfl) (by decide) (fun K hK => ?_); refine G.gs Try.func66 #[.int .i64 a1, .int .i64 a2] ?_; with_reducible refine (impl_tie.calls a1 a2 b8 b9 _ A4.out).mono ?_
 rintro e w8 ⟨rfl, hb⟩; refine ⟨_, rfl, ?_⟩; have n0 := G.bb aw hb; have n1 := G.bs HB hb; clear aw HB; revert n0 n1; intro aw HB; (try clear hb); refine hK.out _ _ ⟨G.z aw 0, G.z aw 1⟩ (fun hHeld => ?_); clear hK K; refine G.no 11 ?_; refine one_ (i := 5) (N := some 12) (G.fl 7 63) rfl rfl (by kernel_rfl) (by decide) (fun K hK => ?_); refine G.gs Try.func83 #[.slice ax aa.length au, .agg #[.int .i64 b8, .int .i64 b9]] ?_; with_reducible refine (slices_Contains_impl_Tie_impl_Tie.calls k _ _ aa b8 b9 bf _ ?side1 ?side2 A5.out).mono ?_
 (case side1 => exact G.cC (Kd.C_below aV.out HB.out)); (case side2 => exact bh.out); rintro e w9 ⟨rfl, hb⟩; refine ⟨_, rfl, ?_⟩; have n0 := G.bb aw hb; have n1 := G.bs HB hb; clear aw HB; revert n0 n1; intro aw HB; (try clear hb); refine hK.out _ _ ⟨G.z aw 0, G.z aw 1⟩ (fun hHeld => ?_); clear hK K; refine G.no 12 ?_; refine G.pu 6 6 127 ?_; refine done_ (by kernel_rfl) ?_; try go_wp2
 go_ret
 exact ⟨caaJ, G.cB HB.out⟩

/-! ### slices_Index_int_int: function 95 -/
def slices_Index_int_int.l0 : Nat → List Int → Int → Int → Int → Option (Int)
 | 0, _, _, _, _ => none
 | k + 1, x0, x1, x7, x8 => if x8 < x7 then (if 0 ≤ x8 then (if x8 < (x0.length : Int) then (if x1 = (rd x0 x8) then (some x8) else (slices_Index_int_int.l0 k x0 x1 x7 (wrap64 (x8 + 1)))) else (none)) else (none)) else (some (-1))
def slices_Index_int_int.f (k : Nat) (l0 : List Int) (a1 : Int) : Option (Int) := slices_Index_int_int.l0 k l0 a1 (l0.length : Int) 0
theorem slices_Index_int_int.mono_l : ∀ k, (∀ y0 y1 y2 y3, LeO (slices_Index_int_int.l0 k y0 y1 y2 y3) (slices_Index_int_int.l0 (k + 1) y0 y1 y2 y3))
 | 0 => fun _ _ _ _ r h => by simp [slices_Index_int_int.l0] at h
 | k + 1 => by
  have aJ := slices_Index_int_int.mono_l k
  ·intro y0 y1 y2 y3; unfold slices_Index_int_int.l0
   repeat' first
   | (with_reducible exact aJ _ _ _ _)
   | (with_reducible exact LeO.refl _)
   | (with_reducible exact LeO.none _)
   | (with_reducible refine LeO.ite ?_ ?_)
   | (with_reducible refine LeO.bind ?_ (fun _ => ?_))
   | exact aJ _ _ _ _
   | exact LeO.none _
   | refine LeO.ite ?_ ?_
   | refine LeO.bind ?_ (fun _ => ?_)
theorem slices_Index_int_int.mono : ∀ a0 a1 k, LeO (slices_Index_int_int.f k a0 a1) (slices_Index_int_int.f (k + 1) a0 a1) := by
 intro a0 a1 k; have aJ := slices_Index_int_int.mono_l k; unfold slices_Index_int_int.f
 repeat' first | (with_reducible first | exact aJ _ _ _ _ | exact LeO.refl _ | exact LeO.none _ | refine LeO.ite ?_ ?_ | refine LeO.bind ?_ (fun _ => ?_)) | exact aJ _ _ _ _ | exact LeO.none _ | refine LeO.ite ?_ ?_ | refine LeO.bind ?_ (fun _ => ?_)
set_option maxHeartbeats 8000000 in
set_option maxRecDepth 100000 in
theorem slices_Index_int_int.calls (k : Nat) (A0 : Option Addr) (c0 : Nat) (l0 : List Int) (a1 : Int) (r : Int) (w : World) (bc : Kd.C (Kd.int .i64) w A0 l0.length l0) (bd : l0.length ≤ c0) (h : slices_Index_int_int.f k l0 a1 = some r) :
  Calls Try.prog 95 #[.slice A0 l0.length c0, .int .i64 a1] w fun e w' => e = .returned (.int .i64 r) ∧ Drawn0 w w' := by
 have bB := G.m bc; have ci := G.m bd; clear bc bd; have H : (slices_Index_int_int.l0 k l0 a1 (l0.length : Int) 0) = some r := h; clear h; have H' := G.m H; clear H
 go_enter Try.func95, Try.ntmps95
 go_wp2
 go_loopg [8] k (fun kq v8 w' => ∃ (ae : Int), v8 = .int .i64 ae ∧ Aside0 (slices_Index_int_int.l0 kq l0 a1 (l0.length : Int) ae = some r) ∧ Aside0 (kq ≤ k) ∧ Drawn0 w w')
 case atStart => exact ⟨(0), (caaI), H', ⟨Nat.le_refl _⟩, by repeat (first | exact Drawn0.refl _ | apply Drawn0.step)⟩
 case round =>
  clear H'; try clear p2
  obtain ⟨ae, rfl, HA, bk, ⟨m1, rfl⟩⟩ := hrel; cases gk with
  | zero => exact absurd HA.out (by simp [slices_Index_int_int.l0])
  | succ k1 =>
   have H := HA.out; clear HA; simp only [slices_Index_int_int.l0] at H
   by_cases c3 : ae < (l0.length : Int)
   ·rw [if_pos c3] at H; have dD : decide (ae < (l0.length : Int)) = true := decide_eq_true c3; clear c3
    by_cases c4 : 0 ≤ ae
    ·rw [if_pos c4] at H; have de : decide (0 ≤ ae) = true := decide_eq_true c4; clear c4
     by_cases c5 : ae < (l0.length : Int)
     ·rw [if_pos c5] at H; have cP : decide (ae < (l0.length : Int)) = true := decide_eq_true c5; clear c5
      by_cases c6 : a1 = (rd l0 ae)
      ·rw [if_pos c6] at H; have cj : (a1 == (rd l0 ae)) = true := beq_iff_eq.mpr c6; have dE : (a1 != (rd l0 ae)) = false := bne_eq_false_iff_eq.mpr c6; clear c6; obtain rfl := Option.some.inj H; have bp : 0 ≤ (ae : Int) := of_decide_eq_true (G.asm); have bq : ae < (l0.length : Int) := of_decide_eq_true (G.asm); obtain ⟨dl, co, cN⟩ := Kd.at_int bB.out ae bp bq; cases co; replace bp := eq_true bp; replace bq := eq_true bq
       go_wp2
       go_ret
       exact ⟨caaI, by repeat (first | exact Drawn0.refl _ | apply Drawn0.step)⟩
      ·rw [if_neg c6] at H; have cj : (a1 == (rd l0 ae)) = false := beq_eq_false_iff_ne.mpr c6; have dE : (a1 != (rd l0 ae)) = true := bne_iff_ne.mpr c6; have H' := G.m H; clear H; have bp : 0 ≤ (ae : Int) := of_decide_eq_true (G.asm); have bq : ae < (l0.length : Int) := of_decide_eq_true (G.asm); obtain ⟨dl, co, cN⟩ := Kd.at_int bB.out ae bp bq; cases co; replace bp := eq_true bp; replace bq := eq_true bq
       go_wp2
       go_roundg k1
       case measure => have := bk.out; omega
       case rel => exact ⟨(wrap64 (ae + 1)), (caaI), H', ⟨by have := bk.out; omega⟩, by repeat (first | exact Drawn0.refl _ | apply Drawn0.step)⟩
     ·rw [if_neg c5] at H; exact absurd H (by simp)
    ·rw [if_neg c4] at H; exact absurd H (by simp)
   ·rw [if_neg c3] at H; have dD : decide (ae < (l0.length : Int)) = false := decide_eq_false c3; clear c3; obtain rfl := Option.some.inj H
    go_wp2
    go_ret
    exact ⟨caaI, by repeat (first | exact Drawn0.refl _ | apply Drawn0.step)⟩

/-! ### slices_Contains_int_int: function 82 -/
def slices_Contains_int_int.f (k : Nat) (l0 : List Int) (a1 : Int) : Option (Bool) := (slices_Index_int_int.f k l0 a1).bind fun bE => (some (decide (bE ≥ 0)))
theorem slices_Contains_int_int.mono : ∀ a0 a1 k, LeO (slices_Contains_int_int.f k a0 a1) (slices_Contains_int_int.f (k + 1) a0 a1) := by
 intro a0 a1 k; unfold slices_Contains_int_int.f
 repeat' first | (with_reducible first | exact slices_Index_int_int.mono _ _ _ | exact LeO.refl _ | exact LeO.none _ | refine LeO.ite ?_ ?_ | refine LeO.bind ?_ (fun _ => ?_)) | exact slices_Index_int_int.mono _ _ _ | exact LeO.none _ | refine LeO.ite ?_ ?_ | refine LeO.bind ?_ (fun _ => ?_)
set_option maxHeartbeats 8000000 in
set_option maxRecDepth 100000 in
theorem slices_Contains_int_int.calls (k : Nat) (A0 : Option Addr) (c0 : Nat) (l0 : List Int) (a1 : Int) (r : Bool) (w : World) (bc : Kd.C (Kd.int .i64) w A0 l0.length l0) (bd : l0.length ≤ c0) (h : slices_Contains_int_int.f k l0 a1 = some r) :
  Calls Try.prog 82 #[.slice A0 l0.length c0, .int .i64 a1] w fun e w' => e = .returned (.bool r) ∧ Drawn0 w w' := by
 have bB := G.m bc; have ci := G.m bd; clear bc bd; have H : ((slices_Index_int_int.f k l0 a1).bind fun bE => (some (decide (bE ≥ 0)))) = some r := h; clear h; obtain ⟨bE, A3, H⟩ := G.bi H; replace H : (some (decide (bE ≥ 0))) = some r := H; obtain rfl := Option.some.inj H
 go_enter Try.func82, Try.ntmps82
 go_wp2_with (first | ((with_reducible refine G.f 95 rfl ?_); refine G.gL 7 Try.func95 #[.slice A0 l0.length c0, .int .i64 a1] ?_; (with_reducible refine (slices_Index_int_int.calls k _ _ l0 a1 bE _ ?side1 ?side2 A3.out).mono ?_); (case side1 => exact G.cC bB.out); (case side2 => exact ci.out); rintro e w' ⟨rfl, ⟨nd, rfl⟩⟩; refine ⟨_, rfl, ?_⟩))
 go_ret
 exact ⟨caaI, by repeat (first | exact Drawn0.refl _ | apply Drawn0.step)⟩

end Go.Proofs.Ytddadihobjinhaa.P
