-- Printed by a program of this session (mp.py, over the kit's print). Not trusted: Lean checks it.
import Derived.Test.YtgeonpciodepgaaF0
import Derived.Test.YtgeonpciodepgaaF2
import Derived.Test.YtgeonpciodepgaaF3
namespace Go.Proofs.Ytgeonpciodepgaa.P
open Go.RowKit Go.Proofs.YtgeonpciodepgaaW.PrintWords Go.Proofs.YtgeonpciodepgaaW.PrintLast Go.Proofs.YtgeonpciodepgaaW.PrintMore
attribute [local go_sem] max2_int min2_int max_two min_two max_three min_three max_four min_four   -- for this text's walks alone
set_option linter.unusedVariables false
set_option linter.unusedSimpArgs false

theorem caaz {p : Prop} (h : p := by (try simp only [au]); (try simp only [aw]); (with_reducible repeat (first | refine blk_drewN ?_ _ | refine blk_drew ?_ | refine blk_alloc ?_ _)); exact ac.out) : p := h
theorem caaA {p : Prop} (h : p := by (try simp only [au]); (try simp only [aw]); (with_reducible repeat (first | apply Kd.R_alloc | apply Kd.R_drewN | apply Kd.R_drew)); exact af.out) : p := h
theorem caax {p : Prop} (h : p := by (with_reducible repeat (first | apply Kd.Q_alloc | apply Kd.Q_drewN | apply Kd.Q_drew)); exact ap.out) : p := h
theorem caav {p : Prop} (h : p := by first | rfl | (simp; done) | (simp [*]; done)) : p := h
theorem caaw {p : Prop} (h : p := by rw [hg]; exact (below_size (G.cB HB.out))) : p := h
theorem caay {p : Prop} (h : p := by have := aZ.out; have := bH.out; omega) : p := h
/-! ### spec_l2Next: function 94 -/
def spec_l2Next.l0 : Nat → Int → List Int → Int → Int → List (S59) → Option (List Int)
 | 0, _, _, _, _, _ => none
 | k + 1, x1, x5, x6, a6, bv => if x6 < a6 then ((spec_l1Has.f k a6 bv x1 x6).bind fun bV => (if bV = true then (if x5.length < 17592186044416 then (spec_l2Next.l0 k x1 (x5 ++ [x6]) (wrap64 (x6 + 1)) a6 bv) else (none)) else (spec_l2Next.l0 k x1 x5 (wrap64 (x6 + 1)) a6 bv))) else (some x5)
def spec_l2Next.f (k : Nat) (aa : Int) (ab : List (S59)) (a1 : Int) : Option (List Int) := spec_l2Next.l0 k a1 (([] : List Int)) 0 aa ab
theorem spec_l2Next.mono_l : ∀ k, (∀ y0 y1 y2 y3 y4, LeO (spec_l2Next.l0 k y0 y1 y2 y3 y4) (spec_l2Next.l0 (k + 1) y0 y1 y2 y3 y4))
 | 0 => fun _ _ _ _ _ r h => by simp [spec_l2Next.l0] at h
 | k + 1 => by
  have aJ := spec_l2Next.mono_l k
  ·intro y0 y1 y2 y3 y4; unfold spec_l2Next.l0
   repeat' first
   | (with_reducible exact aJ _ _ _ _ _)
   | (with_reducible exact spec_l1Has.mono _ _ _ _ _)
   | (with_reducible exact LeO.refl _)
   | (with_reducible exact LeO.none _)
   | (with_reducible refine LeO.ite ?_ ?_)
   | (with_reducible refine LeO.bind ?_ (fun _ => ?_))
   | exact aJ _ _ _ _ _
   | exact spec_l1Has.mono _ _ _ _ _
   | exact LeO.none _
   | refine LeO.ite ?_ ?_
   | refine LeO.bind ?_ (fun _ => ?_)
theorem spec_l2Next.mono : ∀ a0 a1 a2 k, LeO (spec_l2Next.f k a0 a1 a2) (spec_l2Next.f (k + 1) a0 a1 a2) := by
 intro a0 a1 a2 k; have aJ := spec_l2Next.mono_l k; unfold spec_l2Next.f
 repeat' first | (with_reducible first | exact aJ _ _ _ _ _ | exact spec_l1Has.mono _ _ _ _ _ | exact LeO.refl _ | exact LeO.none _ | refine LeO.ite ?_ ?_ | refine LeO.bind ?_ (fun _ => ?_)) | exact aJ _ _ _ _ _ | exact spec_l1Has.mono _ _ _ _ _ | exact LeO.none _ | refine LeO.ite ?_ ?_ | refine LeO.bind ?_ (fun _ => ?_)
set_option maxHeartbeats 8000000 in
set_option maxRecDepth 100000 in
theorem spec_l2Next.calls (k : Nat) (aa : Int) (al : Option Addr) (am : Nat) (ab : List (S59)) (a1 : Int) (r : List Int) (w : World) (aU : Kd.C k59 w al ab.length ab) (aV : ab.length ≤ am) (h : spec_l2Next.f k aa ab a1 = some r) :
  Calls Try.prog 94 #[.agg #[.int .i64 aa, .slice al ab.length am], .int .i64 a1] w fun e w' => ∃ bD : Value, e = .returned (bD) ∧ Kd.R (Kd.int .i64) 3 w' w.heap.size (fun _ => True) bD r ∧ Below w.heap.size w w' := by
 have cS := Try.underlying31; have aH := G.m aU; have aI := G.m aV; clear aU aV; have HB := G.m (Below.refl w.heap.size w); have H : (spec_l2Next.l0 k a1 (([] : List Int)) 0 aa ab) = some r := h; clear h; obtain ⟨cT, bh⟩ : ∃ y_ : List Int, y_ = (([] : List Int)) := ⟨_, rfl⟩; replace H : (spec_l2Next.l0 k a1 cT 0 aa ab) = some r := by first | (rw [bh]; with_reducible exact H) | (have ak := (Option.bind_some _ _).symm.trans H; rw [bh]; with_reducible exact ak) | (have ak := (Option.bind_some _ _).symm.trans H; with_reducible exact ak) | with_reducible exact H | (rw [bh]; exact H) | exact H
 have cp := G.m bh; clear bh; have H' := G.m H; clear H
 go_enter Try.func94, Try.ntmps94
 go_wp2_with (first | ((with_reducible refine G.h 2 rfl ?_); refine G.be 2 #[.int .i64 aa, .slice al ab.length am] 31 ?_; intro bW hg w3 hbox hb; have n0 := G.bs HB hb; have n1 := G.m (hbox); have n2 := G.m (caaw : w.heap.size ≤ bW); have n3 := G.m (caaw : w.heap.size ≤ bW); clear HB; revert n0 n1 n2 n3; intro HB ao eT eU; clear hb hbox hg) | ((with_reducible refine G.h 7 rfl ?_); refine Kd.R_lit (Kd.int .i64) _ 3 ?hg (N := 7) ?hd (xs := ([] : List Int)) (inner := []) (ok := fun _ => True) (okp := fun _ => True) ?hr ?hp (fun _ hk => hk) trivial (Below.refl _ _) (Nat.le_refl _) (by simp) ?_; (case hd => rfl); (case hg => rfl); (case hr => first | (go_simp; done) | (go_simp; rfl)); (case hp => exact (Reps.none _ _)); intro e6 w4 b8 hb hg_ hnew_; clear hg_ hnew_; (first | rw [← cp.out] at b8 | (simp only [Int.reduceToNat] at b8; rw [← cp.out] at b8)); have n0 := G.m (Kd.R_lower b8 (below_size (G.cB HB.out))); have n1 := G.bb ao hb; have n2 := G.bs HB hb; clear ao HB; revert n0 n1 n2; intro dp ao HB; clear hb b8))
 go_loopg [5, 6] k (fun kq v5 v6 w' => ∃ (aq : List Int) (ag : Int), v6 = .int .i64 ag ∧ Aside0 (spec_l2Next.l0 kq a1 aq ag aa ab = some r) ∧ Aside0 (kq ≤ k) ∧ Aside0 (Kd.R (Kd.int .i64) 3 w' w.heap.size (fun _ => True) v5 aq) ∧ Aside0 (w'.heap[bW]? = some (.cells #[.int .i64 aa, (.slice al ab.length am)] 31 (0, 0))) ∧ Aside0 (Below w.heap.size w w'))
 case atStart => exact ⟨(cT), (0), (caav), H', ⟨Nat.le_refl _⟩, ⟨G.cR dp.out⟩, ⟨G.cb ao.out⟩, ⟨G.cB HB.out⟩⟩
 case round =>
  clear H'; try clear p2
  obtain ⟨aq, ag, rfl, HA, aZ, af, ao, HB⟩ := hrel; cases gk with
  | zero => exact absurd HA.out (by simp [spec_l2Next.l0])
  | succ k1 =>
   have H := HA.out; clear HA; simp only [spec_l2Next.l0] at H
   by_cases c6 : ag < aa
   ·rw [if_pos c6] at H; have cd : decide (ag < aa) = true := decide_eq_true c6; clear c6; obtain ⟨bV, A7, H⟩ := G.bi H; replace H : (if bV = true then (if aq.length < 17592186044416 then (spec_l2Next.l0 k1 a1 (aq ++ [ag]) (wrap64 (ag + 1)) aa ab) else (none)) else (spec_l2Next.l0 k1 a1 aq (wrap64 (ag + 1)) aa ab)) = some r := H
    by_cases c8 : bV = true
    ·subst c8; have H1 : (if aq.length < 17592186044416 then (spec_l2Next.l0 k1 a1 (aq ++ [ag]) (wrap64 (ag + 1)) aa ab) else (none)) = some r := by rw [if_pos rfl] at H; exact H
     clear H; have H := H1; clear H1
     by_cases c9 : aq.length < 17592186044416
     ·rw [if_pos c9] at H; have dX := G.m c9; clear c9; obtain ⟨cU, bj⟩ : ∃ y_ : List Int, y_ = (aq ++ [ag]) := ⟨_, rfl⟩; replace H : (spec_l2Next.l0 k1 a1 cU (wrap64 (ag + 1)) aa ab) = some r := by first | (rw [bj]; with_reducible exact H) | (have ak := (Option.bind_some _ _).symm.trans H; rw [bj]; with_reducible exact ak) | (have ak := (Option.bind_some _ _).symm.trans H; with_reducible exact ak) | with_reducible exact H | (rw [bj]; exact H) | exact H
      have dq := G.m bj; clear bj; have H' := G.m H; clear H; have ⟨ep, eq, er, es⟩ := G.d2 (w := wr) ao
      go_wp2_with (first | ((with_reducible refine G.f 113 rfl ?_); refine G.gL 17 Try.func113 #[.agg #[.int .i64 aa, .slice al ab.length am], .int .i64 a1, .int .i64 ag] ?_; (with_reducible refine (spec_l1Has.calls k1 aa _ _ ab a1 ag true _ ?side1 ?side2 A7.out).mono ?_); (case side1 => exact G.cC (Kd.C_below aH.out HB.out)); (case side2 => exact aI.out); rintro e fu ⟨rfl, hb⟩; refine ⟨_, rfl, ?_⟩; have n0 := G.rb af hb; have n1 := G.bb ao hb; have n2 := G.bs HB hb; clear af ao HB; revert n0 n1 n2; intro af ao HB; (try clear hb)) | ((with_reducible refine gate_builtin (b := .append) (xs := #[.tmp 18, .tmp 20]) rfl ?_); at_builtin; refine Kd.R_append (Kd.int .i64) (w0 := w) w.heap.size rfl (.tmp 18) (.tmp 20) 45 3 (.int .i64 0) 8 rfl Try.underlying45 info3 rfl (by decide) (by omega) u5 aq ag [.int .i64 ag] (fun _ => True) (fun _ => False) rfl rfl ?aP (fun _ hk => hk.elim) ?aF ?aO ?aB ?aS ?aL ?_; (case aP => exact rfl); (case aB => exact (G.cB HB.out)); (case aF => exact (fun _ _ => trivial)); (case aO => exact (G.cR af.out)); (case aS => exact (below_size (G.cB HB.out))); (case aL => have := dX.out; omega); intro e7 cW ho hb hg hat; rw [← dq.out] at ho; have n0 := G.bg ao hg (Kd.R_ne af.out ao.out (by decide)); have n1 := G.m (hb); have n2 := G.m (ho); clear ao HB af; revert n0 n1 n2; intro ao HB dr; clear ho hb hg hat))
      go_roundg k1
      case measure => have := aZ.out; omega
      case rel => exact ⟨(cU), (wrap64 (ag + 1)), (caav), H', ⟨by have := aZ.out; omega⟩, ⟨G.cR dr.out⟩, ⟨G.cb ao.out⟩, ⟨G.cB HB.out⟩⟩
     ·rw [if_neg c9] at H; exact absurd H (by simp)
    ·replace c8 := Bool.eq_false_iff.mpr c8; subst c8; have H1 : (spec_l2Next.l0 k1 a1 aq (wrap64 (ag + 1)) aa ab) = some r := by rw [if_neg (show ¬ (false = true) by decide)] at H; exact H
     clear H; have H := H1; clear H1; have H' := G.m H; clear H; have ⟨bN, bO, bP, bQ⟩ := G.d2 (w := wr) ao
     go_wp2_with (first | ((with_reducible refine G.f 113 rfl ?_); refine G.gL 17 Try.func113 #[.agg #[.int .i64 aa, .slice al ab.length am], .int .i64 a1, .int .i64 ag] ?_; (with_reducible refine (spec_l1Has.calls k1 aa _ _ ab a1 ag false _ ?side1 ?side2 A7.out).mono ?_); (case side1 => exact G.cC (Kd.C_below aH.out HB.out)); (case side2 => exact aI.out); rintro e cX ⟨rfl, hb⟩; refine ⟨_, rfl, ?_⟩; have n0 := G.rb af hb; have n1 := G.bb ao hb; have n2 := G.bs HB hb; clear af ao HB; revert n0 n1 n2; intro af ao HB; (try clear hb)))
     go_roundg k1
     case measure => have := aZ.out; omega
     case rel => exact ⟨(aq), (wrap64 (ag + 1)), (caav), H', ⟨by have := aZ.out; omega⟩, ⟨G.cR af.out⟩, ⟨G.cb ao.out⟩, ⟨G.cB HB.out⟩⟩
   ·rw [if_neg c6] at H; have cd : decide (ag < aa) = false := decide_eq_false c6; clear c6; obtain rfl := Option.some.inj H; have ⟨et, eu, ev, ew⟩ := G.d2 (w := wr) ao
    go_wp2
    go_ret
    exact ⟨_, by first | rfl | (simp [errW_none, errW_some] <;> rfl) | (simp [*, errW_none, errW_some] <;> rfl), G.cR af.out, G.cB HB.out⟩

/-! ### spec_WayReach: function 115 -/
mutual
def spec_WayReach.l0 : Nat → List Bool → List Int → Int → List (S59) → Option (List Bool)
 | 0, _, _, _, _ => none
 | k + 1, x5, x6, aN, aQ => if (x6.length : Int) > 0 then (if 0 < (x6.length : Int) then ((spec_l2Next.f k aN aQ (rd x6 0)).bind fun ah => (if 1 ≤ (x6.length : Int) then (spec_WayReach.l1 k x5 (x6.drop (1 : Int).toNat) ah 0 aN aQ) else (none))) else (none)) else (some x5)
def spec_WayReach.l1 : Nat → List Bool → List Int → List Int → Int → Int → List (S59) → Option (List Bool)
 | 0, _, _, _, _, _, _ => none
 | k + 1, x5, x6, x7, x8, aN, aQ => if x8 < (x7.length : Int) then (if 0 ≤ x8 then (if 0 ≤ (rd x7 x8) then (if (rd x7 x8) < (x5.length : Int) then (if (rdOf false x5 (rd x7 x8) = true) then (spec_WayReach.l1 k x5 x6 x7 (wrap64 (x8 + 1)) aN aQ) else (if x6.length < 17592186044416 then (spec_WayReach.l1 k (x5.set ((rd x7 x8) : Int).toNat true) (x6 ++ [rd x7 x8]) x7 (wrap64 (x8 + 1)) aN aQ) else (none))) else (none)) else (none)) else (none)) else (spec_WayReach.l0 k x5 x6 aN aQ)
end
def spec_WayReach.f (k : Nat) (aa : Int) (ab : List (S59)) (a1 : Int) : Option (List Bool) := (spec_l1Knot.f k aa ab a1).bind fun bw => (if bw = true then (if 0 ≤ aa then (if (aa : Int).toNat ≤ 281474976710656 then ((some (List.replicate (aa : Int).toNat false : List Bool)).bind fun av => (if 0 ≤ a1 then (if a1 < (av.length : Int) then (spec_WayReach.l0 k (av.set (a1 : Int).toNat true) (([a1] : List Int)) aa ab) else (none)) else (none))) else (none)) else (none)) else (some (([] : List Bool))))
theorem spec_WayReach.mono_l : ∀ k, (∀ y0 y1 y2 y3, LeO (spec_WayReach.l0 k y0 y1 y2 y3) (spec_WayReach.l0 (k + 1) y0 y1 y2 y3)) ∧ (∀ y0 y1 y2 y3 y4 y5, LeO (spec_WayReach.l1 k y0 y1 y2 y3 y4 y5) (spec_WayReach.l1 (k + 1) y0 y1 y2 y3 y4 y5))
 | 0 => ⟨fun _ _ _ _ r h => by simp [spec_WayReach.l0] at h, fun _ _ _ _ _ _ r h => by simp [spec_WayReach.l1] at h⟩
 | k + 1 => by
  obtain ⟨aJ, a4⟩ := spec_WayReach.mono_l k; refine ⟨?_, ?_⟩ <;> intros
  all_goals first | unfold spec_WayReach.l0 | unfold spec_WayReach.l1
  repeat' first | (with_reducible first | exact aJ _ _ _ _ | exact a4 _ _ _ _ _ _ | exact spec_l1Knot.mono _ _ _ _ | exact spec_l2Next.mono _ _ _ _ | exact LeO.refl _ | exact LeO.none _ | refine LeO.ite ?_ ?_ | refine LeO.bind ?_ (fun _ => ?_)) | exact aJ _ _ _ _ | exact a4 _ _ _ _ _ _ | exact spec_l1Knot.mono _ _ _ _ | exact spec_l2Next.mono _ _ _ _ | exact LeO.none _ | refine LeO.ite ?_ ?_ | refine LeO.bind ?_ (fun _ => ?_)
theorem spec_WayReach.mono : ∀ a0 a1 a2 k, LeO (spec_WayReach.f k a0 a1 a2) (spec_WayReach.f (k + 1) a0 a1 a2) := by
 intro a0 a1 a2 k; obtain ⟨aJ, a4⟩ := spec_WayReach.mono_l k; unfold spec_WayReach.f
 repeat' first | (with_reducible first | exact aJ _ _ _ _ | exact a4 _ _ _ _ _ _ | exact spec_l1Knot.mono _ _ _ _ | exact spec_l2Next.mono _ _ _ _ | exact LeO.refl _ | exact LeO.none _ | refine LeO.ite ?_ ?_ | refine LeO.bind ?_ (fun _ => ?_)) | exact aJ _ _ _ _ | exact a4 _ _ _ _ _ _ | exact spec_l1Knot.mono _ _ _ _ | exact spec_l2Next.mono _ _ _ _ | exact LeO.none _ | refine LeO.ite ?_ ?_ | refine LeO.bind ?_ (fun _ => ?_)
set_option maxHeartbeats 8000000 in
set_option maxRecDepth 100000 in
theorem spec_WayReach.calls (k : Nat) (aa : Int) (al : Option Addr) (am : Nat) (ab : List (S59)) (a1 : Int) (r : List Bool) (w : World) (aU : Kd.C k59 w al ab.length ab) (aV : ab.length ≤ am) (h : spec_WayReach.f k aa ab a1 = some r) :
  Calls Try.prog 115 #[.agg #[.int .i64 aa, .slice al ab.length am], .int .i64 a1] w fun e w' => ∃ bD : Value, e = .returned (bD) ∧ Kd.R Kd.bool 4 w' w.heap.size (fun _ => True) bD r ∧ Below w.heap.size w w' := by
 have cS := Try.underlying31; have aH := G.m aU; have aI := G.m aV; clear aU aV; have HB := G.m (Below.refl w.heap.size w); have H : ((spec_l1Knot.f k aa ab a1).bind fun bw => (if bw = true then (if 0 ≤ aa then (if (aa : Int).toNat ≤ 281474976710656 then ((some (List.replicate (aa : Int).toNat false : List Bool)).bind fun av => (if 0 ≤ a1 then (if a1 < (av.length : Int) then (spec_WayReach.l0 k (av.set (a1 : Int).toNat true) (([a1] : List Int)) aa ab) else (none)) else (none))) else (none)) else (none)) else (some (([] : List Bool))))) = some r := h; clear h; obtain ⟨bw, A3, H⟩ := G.bi H; replace H : (if bw = true then (if 0 ≤ aa then (if (aa : Int).toNat ≤ 281474976710656 then ((some (List.replicate (aa : Int).toNat false : List Bool)).bind fun av => (if 0 ≤ a1 then (if a1 < (av.length : Int) then (spec_WayReach.l0 k (av.set (a1 : Int).toNat true) (([a1] : List Int)) aa ab) else (none)) else (none))) else (none)) else (none)) else (some (([] : List Bool)))) = some r := H
 by_cases c4 : bw = true
 ·subst c4; have H1 : (if 0 ≤ aa then (if (aa : Int).toNat ≤ 281474976710656 then ((some (List.replicate (aa : Int).toNat false : List Bool)).bind fun av => (if 0 ≤ a1 then (if a1 < (av.length : Int) then (spec_WayReach.l0 k (av.set (a1 : Int).toNat true) (([a1] : List Int)) aa ab) else (none)) else (none))) else (none)) else (none)) = some r := by rw [if_pos rfl] at H; exact H
  clear H; have H := H1; clear H1
  by_cases c5 : 0 ≤ aa
  ·rw [if_pos c5] at H; have dY := eq_true c5; have dZ : decide (0 ≤ aa) = true := decide_eq_true c5; clear c5
   by_cases c6 : (aa : Int).toNat ≤ 281474976710656
   ·rw [if_pos c6] at H; have cd := eq_true c6; have d7 : decide ((aa : Int).toNat ≤ 281474976710656) = true := decide_eq_true c6; clear c6; obtain ⟨av, bk⟩ : ∃ y_ : List Bool, y_ = (List.replicate (aa : Int).toNat false) := ⟨_, rfl⟩; replace H : (if 0 ≤ a1 then (if a1 < (av.length : Int) then (spec_WayReach.l0 k (av.set (a1 : Int).toNat true) (([a1] : List Int)) aa ab) else (none)) else (none)) = some r := by first | (rw [bk]; with_reducible exact H) | (have ak := (Option.bind_some _ _).symm.trans H; rw [bk]; with_reducible exact ak) | (have ak := (Option.bind_some _ _).symm.trans H; with_reducible exact ak) | with_reducible exact H | (rw [bk]; exact H) | exact H
    have cq := G.m bk; clear bk
    by_cases c7 : 0 ≤ a1
    ·rw [if_pos c7] at H; have d8 : decide (0 ≤ a1) = true := decide_eq_true c7; clear c7
     by_cases c8 : a1 < (av.length : Int)
     ·rw [if_pos c8] at H; have d9 : decide (a1 < (av.length : Int)) = true := decide_eq_true c8; clear c8; obtain ⟨bX, bl⟩ : ∃ y_ : List Bool, y_ = (av.set (a1 : Int).toNat true) := ⟨_, rfl⟩; replace H : (spec_WayReach.l0 k bX (([a1] : List Int)) aa ab) = some r := by first | (rw [bl]; with_reducible exact H) | (have ak := (Option.bind_some _ _).symm.trans H; rw [bl]; with_reducible exact ak) | (have ak := (Option.bind_some _ _).symm.trans H; with_reducible exact ak) | with_reducible exact H | (rw [bl]; exact H) | exact H
      have dt := G.m bl; clear bl; obtain ⟨cY, bm⟩ : ∃ y_ : List Int, y_ = (([a1] : List Int)) := ⟨_, rfl⟩; replace H : (spec_WayReach.l0 k bX cY aa ab) = some r := by first | (rw [bm]; with_reducible exact H) | (have ak := (Option.bind_some _ _).symm.trans H; rw [bm]; with_reducible exact ak) | (have ak := (Option.bind_some _ _).symm.trans H; with_reducible exact ak) | with_reducible exact H | (rw [bm]; exact H) | exact H
      have cr := G.m bm; clear bm; have H' := G.m H; clear H
      go_enter Try.func115, Try.ntmps115
      go_wp2_with (first | ((with_reducible refine G.h 2 rfl ?_); refine G.be 2 #[.int .i64 aa, .slice al ab.length am] 31 ?_; intro aK hg eL hbox hb; have n0 := G.bs HB hb; have n1 := G.m (hbox); have n2 := G.m (caaw : w.heap.size ≤ aK); have n3 := G.m (caaw : w.heap.size ≤ aK); clear HB; revert n0 n1 n2 n3; intro HB ac du dv; clear hb hbox hg; have ⟨bx, bz, bA, bB⟩ := G.d2 (w := eL) ac) | ((with_reducible refine G.f 85 rfl ?_); refine G.gL 11 Try.func85 #[.agg #[.int .i64 aa, .slice al ab.length am], .int .i64 a1] ?_; (with_reducible refine (spec_l1Knot.calls k aa _ _ ab a1 true _ ?side1 ?side2 A3.out).mono ?_); (case side1 => exact G.cC (Kd.C_below aH.out HB.out)); (case side2 => exact aI.out); rintro e cW ⟨rfl, hb⟩; refine ⟨_, rfl, ?_⟩; have n0 := G.bb ac hb; have n1 := G.bs HB hb; clear ac HB; revert n0 n1; intro ac HB; (try clear hb); have ⟨bN, bO, bP, bQ⟩ := G.d2 (w := cW) ac) | ((with_reducible refine G.h 16 rfl ?_); refine Kd.R_make Kd.bool _ 4 rfl (N := 16) rfl 54 _ _ rfl aa rfl rfl Try.underlying54 (.bool false) 1 info4 rfl (by decide) (by omega) false (ok := fun _ => True) (okp := fun _ => True) rfl (fun _ hk => hk) trivial (of_decide_eq_true (G.asm)) (Nat.le_trans (Nat.mul_le_mul_right _ (of_decide_eq_true (G.asm) : aa.toNat ≤ 281474976710656)) (by omega)) (Below.refl _ _) (Nat.le_refl _) ?_; intro e8 cX bI hb hg_ hnew_; clear hg_ hnew_; (first | rw [← cq.out] at bI | (simp only [Int.reduceToNat] at bI; rw [← cq.out] at bI)); have n0 := G.m (Kd.R_lower bI (below_size (G.cB HB.out))); have n1 := G.bb ac hb; have n2 := G.bs HB hb; clear ac HB; revert n0 n1 n2; intro aD ac HB; clear hb bI; have p9 : 0 ≤ (a1 : Int) := of_decide_eq_true (G.asm); have q9 : (a1 : Int) < ((av.length : Int) : Int) := of_decide_eq_true (G.asm); obtain ⟨a3, bR, dS, dT, eM, fv, dU⟩ := Kd.R_form aD.out (by omega); (first | cases dS | (injection dS with ea_ en_ ec_; (first | subst ea_ | (injection ea_ with ea_; subst ea_)); subst ec_; clear en_)); have dV := G.m dT; have fw := G.m dU; clear dT eM dU; obtain ⟨dw, eV⟩ := Kd.R_celln false aD.out (a1 : Int) p9 q9; replace p9 := eq_true p9; replace q9 := eq_true q9; obtain ⟨eW, eX⟩ := Kd.R_celln false aD.out (a1 : Int) (of_decide_eq_true (G.asm)) (of_decide_eq_true (G.asm)); have ce := Kd.R_putg aD.out (a1 : Int) true) | ((with_reducible refine gate_store (t := 4) (p := 19) rfl ?_); refine store_event (t := 4) (p := 19) (v := ?vo_w17) (w1 := (cX.setCell ⟨a3, (a1 : Int).toNat, none⟩ (.bool true))) ?hg ?ho ?hn ?hr ?_; (case ho => rfl); (case hg => rfl); (case hn => rfl); (case hr => first | (go_simp; done) | (go_simp; rfl)); intro cZ hw; have hg : cX.grownBy cZ (some a3) := (by rw [hw]; exact ce.2); have hp_ : Kd.R Kd.bool 4 cZ w.heap.size (fun _ => True) (.slice (some ⟨a3, 0, none⟩) av.length bR) bX := (by rw [hw, dt.out]; exact ce.1); clear ce; have n0 := G.bg ac hg (Kd.R_ne aD.out ac.out (by decide)); have n1 := G.m (hp_); have n2 := G.m ((by rw [hw]; exact below_set (HB.out) dV.out : Below w.heap.size w cZ)); clear ac aD HB; revert n0 n1 n2; intro ac aD HB; clear hg hw hp_) | ((with_reducible refine G.h 21 rfl ?_); refine Kd.R_lit (Kd.int .i64) _ 3 ?hg (N := 21) ?hd (xs := ([a1] : List Int)) (inner := [.int .i64 a1]) (ok := fun _ => True) (okp := fun _ => True) ?hr ?hp (fun _ hk => hk) trivial (Below.refl _ _) (Nat.le_refl _) (by simp) ?_; (case hd => rfl); (case hg => rfl); (case hr => first | (go_simp; done) | (go_simp; rfl)); (case hp => exact (Reps.one (show Kd.M (Kd.int .i64) _ _ _ a1 [.int .i64 a1] from rfl) (Reps.none _ _))); intro e9 fx bJ hb hg_ hnew_; clear hg_ hnew_; (first | rw [← cr.out] at bJ | (simp only [Int.reduceToNat] at bJ; rw [← cr.out] at bJ)); have n0 := G.rb aD hb; have n1 := G.m (Kd.R_lower bJ (below_size (G.cB HB.out))); have n2 := G.bb ac hb; have n3 := G.bs HB hb; clear aD ac HB; revert n0 n1 n2 n3; intro aD dx ac HB; clear hb bJ))
      go_loopg [6] k (fun kq v6 w' => ∃ (aq : List Bool) (ag : List Int), Aside0 (spec_WayReach.l0 kq aq ag aa ab = some r) ∧ Aside0 (kq ≤ k) ∧ Aside0 (Kd.R Kd.bool 4 w' w.heap.size (fun _ => True) (.slice (some ⟨a3, 0, none⟩) av.length bR) aq) ∧ Aside0 (Kd.Q (Kd.int .i64) 3 w' w.heap.size (fun _ => True) v6 ag) ∧ Aside0 (w'.heap[aK]? = some (.cells #[.int .i64 aa, (.slice al ab.length am)] 31 (0, 0))) ∧ Aside0 (Below w.heap.size w w'))
      case atStart => exact ⟨(bX), (cY), H', ⟨Nat.le_refl _⟩, ⟨G.cR aD.out⟩, ⟨Kd.Q_of_R (G.cR dx.out)⟩, ⟨G.cb ac.out⟩, ⟨G.cB HB.out⟩⟩
      case round =>
       clear H'; (try clear c4 dY dZ cd d7 d8 d9 p9 q9 bx bz bN bO bA bB bP bQ dw); obtain ⟨aq, ag, HA, aZ, af, ap, ac, HB⟩ := hrel; have au := (Kd.R_reads' af.out).1; rw [au] at af; (try simp only [au]); (try simp only [au] at ac); (try simp only [au] at ap); cases gk with
       | zero => exact absurd HA.out (by simp [spec_WayReach.l0])
       | succ k1 =>
        have H := HA.out; clear HA; simp only [spec_WayReach.l0] at H
        by_cases bS : (ag.length : Int) > 0
        ·rw [if_pos bS] at H; have ct : decide (0 < (ag.length : Int)) = true := decide_eq_true bS; have cu : decide (0 < ag.length) = true := decide_eq_true (by omega); clear bS
         by_cases cv : 0 < (ag.length : Int)
         ·rw [if_pos cv] at H; have dy : decide (0 < (ag.length : Int)) = true := decide_eq_true cv; have dz : decide (0 < ag.length) = true := decide_eq_true (by omega); clear cv; obtain ⟨ah, eN, H⟩ := G.bi H; replace H : (if 1 ≤ (ag.length : Int) then (spec_WayReach.l1 k1 aq (ag.drop (1 : Int).toNat) ah 0 aa ab) else (none)) = some r := H
          by_cases b9 : 1 ≤ (ag.length : Int)
          ·rw [if_pos b9] at H; have dA := eq_true b9; have dB : decide (1 ≤ (ag.length : Int)) = true := decide_eq_true b9; clear b9; obtain ⟨a8, bn⟩ : ∃ y_ : List Int, y_ = (ag.drop (1 : Int).toNat) := ⟨_, rfl⟩; replace H : (spec_WayReach.l1 k1 aq a8 ah 0 aa ab) = some r := by first | (rw [bn]; with_reducible exact H) | (have ak := (Option.bind_some _ _).symm.trans H; rw [bn]; with_reducible exact ak) | (have ak := (Option.bind_some _ _).symm.trans H; with_reducible exact ak) | with_reducible exact H | (rw [bn]; exact H) | exact H
           have cw := G.m bn; clear bn; have H' := G.m H; clear H; obtain ⟨fa, bY, d_, _⟩ := Kd.Q_slice ap.out; subst d_; try go_wp2
           have n0 := G.m (Kd.R_drew af.out); have n1 := G.m (Kd.Q_drew ap.out); have n2 := G.m (blk_drew ac.out); have n3 := G.m (below_drew1 HB.out); clear af ap ac HB; revert n0 n1 n2 n3; intro af ap ac HB; have bZ : 0 ≤ (0 : Int) := (by omega); have b1 : 0 < (ag.length : Int) := of_decide_eq_true (G.asm); obtain ⟨a7, ea, aW⟩ := Kd.at_int (Kd.Q_reads' ap.out).2.2 0 bZ b1; cases ea; have eY : (0 < ag.length) = True := eq_true (by omega); (try rw [show ((0 : Int)).toNat = 0 from rfl] at aW); (try rw [Addr.add_zero'] at aW); replace bZ := eq_true bZ; replace b1 := eq_true b1; refine start_ (n := 6) (S := fun w' => w'.cell? ⟨aK, 0, none⟩ = some (.int .i64 aa) ∧ w'.cell? ⟨aK, 1, none⟩ = some (.slice al ab.length am) ∧ w'.cell? a7 = some (.int .i64 (rd ag 0))) (ds := []) (G.fl 6 0) (by kernel_rfl) rfl (by kernel_rfl) ⟨G.z ac 0, G.z ac 1, aW⟩ (fun hHeld => ?_); generalize wr.drew = fy at af ap ac HB aW hHeld ⊢; refine G.pu 1 26 2 ?_; refine G.pu 2 27 6 ?_; refine G.ta3 0 25 7 ?_; refine G.ta3 3 28 15 ?_; refine one_ (i := 4) (N := some 29) (G.fl 6 31) rfl rfl (by kernel_rfl) (by decide) (fun K hK => ?_); refine G.gs Try.func94 #[.agg #[.int .i64 aa, .slice al ab.length am], .int .i64 (rd ag 0)] ?_; with_reducible refine (spec_l2Next.calls k1 aa _ _ ab (rd ag 0) ah _ ?side1 ?side2 eN.out).mono ?_
           (case side1 => exact G.cC (Kd.C_below aH.out HB.out)); (case side2 => exact aI.out); rintro e dW ⟨b2, rfl, bT, hb⟩; have eb := (hb.cell (World.block_lt_of_cell? _ _ (hHeld.2.2))).trans (hHeld.2.2); refine ⟨_, rfl, ?_⟩; have n0 := G.rb af hb; have n1 := G.m (Kd.Q_elder' (caax) (Kd.R_base bT) hb); have n2 := G.m (Kd.R_lower (Kd.R_new' bT (Kd.Q_lt (caax))) (below_size (G.cB HB.out))); have n3 := G.bb ac hb; have n4 := G.bs HB hb; clear af ap ac HB; revert n0 n1 n2 n3 n4; intro af ap bE ac HB; (try clear hb fz hk hi bT); refine hK.out _ _ ⟨G.z ac 0, G.z ac 1, eb⟩ (fun hHeld => ?_); clear hK K; refine G.no 29 ?_; refine G.pu 5 7 63 ?_; refine done_ (by kernel_rfl) ?_; have n_ := G.m (Kd.Q_mono (ok' := (fun k_ => some k_ ≠ (b2 : Value).ownBlock)) ap.out (fun k_ hk => hk.2)); clear ap; have ap := n_; clear n_; have cx : (1 : Int) ≤ ((ag.length : Int) : Int) := of_decide_eq_true (G.asm); obtain ⟨fb, cy, _, cz, _⟩ := info_parts info3; have c_ := cut_from (P := Try.prog) 45 3 .i64 Try.underlying45 cy 1 cz (some a7) ag.length bY 1 (by omega) cx; have bK := Kd.Q_drop (k := (1 : Int).toNat) ap.out (by omega); obtain ⟨da, b3⟩ : ∃ A1, A1 = (if bY = (1 : Int).toNat then (some a7) else ((some a7) : Option Addr).map (·.add ((1 : Int).toNat * 1))) := ⟨_, rfl⟩; obtain ⟨cA, cf⟩ : ∃ c1, c1 = bY - (1 : Int).toNat := ⟨_, rfl⟩; have cg : a8.length = ag.length - (1 : Int).toNat := (by rw [cw.out, List.length_drop]); rw [← cw.out] at bK; rw [← cg, ← b3, ← cf] at c_; replace bK : Kd.Q (Kd.int .i64) 3 dW w.heap.size (fun k_ => some k_ ≠ (b2 : Value).ownBlock) (.slice da a8.length cA) a8 := (by rw [b3, cf, cg]; exact bK); have ec : Aside0 ((Value.slice da a8.length cA).ownBlock = (.slice (some a7) ag.length bY : Value).ownBlock) := ⟨by rw [b3]; split <;> (cases ((some a7) : Option Addr) <;> rfl)⟩; clear cg cy cz ap b3 cf; have dC := G.m bK; clear bK; replace cx := eq_true cx; have n_ := G.m (Kd.R_mono (ok' := fun k_ => (True ∧ some k_ ≠ (.slice da a8.length cA : Value).ownBlock)) bE.out (fun k_ hk => ⟨trivial, (by rw [ec.out]; exact hk.2)⟩)); clear bE; have bE := n_; clear n_; try go_wp2
           go_loopg [6, 8] k1 (fun kq v6 v8 w' => ∃ (ax : List Bool) (ai : List Int) (ae : Int), v8 = .int .i64 ae ∧ Aside0 (spec_WayReach.l1 kq ax ai ah ae aa ab = some r) ∧ Aside0 (kq ≤ k1) ∧ Aside0 (Kd.R Kd.bool 4 w' w.heap.size (fun _ => True) (.slice (some ⟨a3, 0, none⟩) aq.length bR) ax) ∧ Aside0 (Kd.Q (Kd.int .i64) 3 w' w.heap.size (fun k_ => some k_ ≠ (b2 : Value).ownBlock) v6 ai) ∧ Aside0 (Kd.R (Kd.int .i64) 3 w' w.heap.size (fun k_ => some k_ ≠ (v6 : Value).ownBlock) b2 ah) ∧ Aside0 (w'.heap[aK]? = some (.cells #[.int .i64 aa, (.slice al ab.length am)] 31 (0, 0))) ∧ Aside0 (Below w.heap.size w w'))
           case atStart => exact ⟨(aq), (a8), (0), (caav), H', ⟨Nat.le_refl _⟩, ⟨by (try simp only [au]); (with_reducible repeat (first | apply Kd.R_alloc | apply Kd.R_drewN | apply Kd.R_drew)); exact af.out⟩, ⟨by (try simp only [au]); (with_reducible repeat (first | apply Kd.Q_alloc | apply Kd.Q_drewN | apply Kd.Q_drew)); exact dC.out⟩, ⟨by (try simp only [au]); (with_reducible repeat (first | apply Kd.R_alloc | apply Kd.R_drewN | apply Kd.R_drew)); exact Kd.R_mono bE.out (fun _ hk => hk.2)⟩, ⟨by (try simp only [au]); (with_reducible repeat (first | refine blk_drewN ?_ _ | refine blk_drew ?_ | refine blk_alloc ?_ _)); exact ac.out⟩, ⟨G.cB HB.out⟩⟩
           case round =>
            clear H'; (try clear c1 ct cu dy dz dA dB cA cx aW bZ b1); obtain ⟨ax, ai, ae, rfl, HA, bH, af, ap, ay, ac, HB⟩ := hrel; have aw := (Kd.R_reads' af.out).1; rw [aw] at af; (try simp only [aw]); (try simp only [aw] at ac); (try simp only [aw] at ap); (try simp only [aw] at ay); cases gk with
            | zero => exact absurd HA.out (by simp [spec_WayReach.l1])
            | succ k2 =>
             have H := HA.out; clear HA; simp only [spec_WayReach.l1] at H
             by_cases bU : ae < (ah.length : Int)
             ·rw [if_pos bU] at H; have dD : decide (ae < (ah.length : Int)) = true := decide_eq_true bU; clear bU
              by_cases cD : 0 ≤ ae
              ·rw [if_pos cD] at H; have eZ : decide (0 ≤ ae) = true := decide_eq_true cD; clear cD
               by_cases cE : 0 ≤ (rd ah ae)
               ·rw [if_pos cE] at H; have e2 : decide (0 ≤ (rd ah ae)) = true := decide_eq_true cE; clear cE
                by_cases cF : (rd ah ae) < (ax.length : Int)
                ·rw [if_pos cF] at H; have e3 : decide ((rd ah ae) < (ax.length : Int)) = true := decide_eq_true cF; clear cF; obtain ⟨db, b4⟩ : ∃ b_ : Bool, b_ = (rdOf false ax (rd ah ae)) := ⟨_, rfl⟩; replace H : (if (db = true) then (spec_WayReach.l1 k2 ax ai ah (wrap64 (ae + 1)) aa ab) else (if ai.length < 17592186044416 then (spec_WayReach.l1 k2 (ax.set ((rd ah ae) : Int).toNat true) (ai ++ [rd ah ae]) ah (wrap64 (ae + 1)) aa ab) else (none))) = some r := by rw [← b4] at H; exact H
                 have cG := G.m b4; clear b4
                 by_cases cH : (db = true)
                 ·subst cH; have H1 : (spec_WayReach.l1 k2 ax ai ah (wrap64 (ae + 1)) aa ab) = some r := by rw [if_pos rfl] at H; exact H
                  clear H; have H := H1; clear H1; have H' := G.m H; clear H; obtain ⟨fc, fd, ed⟩ := Kd.R_slice ay.out; subst ed; have a9 : 0 ≤ (ae : Int) := of_decide_eq_true (G.asm); have a_ : ae < (ah.length : Int) := of_decide_eq_true (G.asm); obtain ⟨bF, ch, cQ⟩ := Kd.at_int (Kd.R_reads' ay.out).2.2 ae a9 a_; cases ch; replace a9 := eq_true a9; replace a_ := eq_true a_; have ba : 0 ≤ ((rd ah ae) : Int) := of_decide_eq_true (G.asm); have bc : (rd ah ae) < (ax.length : Int) := of_decide_eq_true (G.asm); obtain ⟨b5, ci, az⟩ := Kd.at_bool (Kd.R_reads' af.out).2.2 (rd ah ae) ba bc; (try rw [← cG.out] at az); obtain rfl : (⟨a3, 0, none⟩ : Addr) = b5 := (by injection ci); (first | simp only [add_plain] at az | simp only [add_at] at az | simp only [Addr.add, Nat.zero_add] at az | skip); replace ba := eq_true ba; replace bc := eq_true bc
                  go_wp2; (try simp only [← aw])
                  go_roundg k2
                  case measure => have := aZ.out; have := bH.out; omega
                  case rel => exact ⟨(ax), (ai), (wrap64 (ae + 1)), (caav), H', ⟨caay⟩, ⟨caaA⟩, ⟨by (try simp only [au]); (try simp only [aw]); (with_reducible repeat (first | apply Kd.Q_alloc | apply Kd.Q_drewN | apply Kd.Q_drew)); exact ap.out⟩, ⟨by (try simp only [au]); (try simp only [aw]); (with_reducible repeat (first | apply Kd.R_alloc | apply Kd.R_drewN | apply Kd.R_drew)); exact ay.out⟩, ⟨caaz⟩, ⟨G.cB HB.out⟩⟩
                 ·replace cH := Bool.eq_false_iff.mpr cH; subst cH; have H1 : (if ai.length < 17592186044416 then (spec_WayReach.l1 k2 (ax.set ((rd ah ae) : Int).toNat true) (ai ++ [rd ah ae]) ah (wrap64 (ae + 1)) aa ab) else (none)) = some r := by rw [if_neg (show ¬ (false = true) by decide)] at H; exact H
                  clear H; have H := H1; clear H1; obtain ⟨b6, bo⟩ : ∃ y_ : List Bool, y_ = (ax.set ((rd ah ae) : Int).toNat true) := ⟨_, rfl⟩; replace H : (if ai.length < 17592186044416 then (spec_WayReach.l1 k2 b6 (ai ++ [rd ah ae]) ah (wrap64 (ae + 1)) aa ab) else (none)) = some r := by first | (rw [bo]; with_reducible exact H) | (have ak := (Option.bind_some _ _).symm.trans H; rw [bo]; with_reducible exact ak) | (have ak := (Option.bind_some _ _).symm.trans H; with_reducible exact ak) | with_reducible exact H | (rw [bo]; exact H) | exact H
                  have dE := G.m bo; clear bo
                  by_cases cI : ai.length < 17592186044416
                  ·rw [if_pos cI] at H; have dF := G.m cI; clear cI; obtain ⟨dc, bp⟩ : ∃ y_ : List Int, y_ = (ai ++ [rd ah ae]) := ⟨_, rfl⟩; replace H : (spec_WayReach.l1 k2 b6 dc ah (wrap64 (ae + 1)) aa ab) = some r := by first | (rw [bp]; with_reducible exact H) | (have ak := (Option.bind_some _ _).symm.trans H; rw [bp]; with_reducible exact ak) | (have ak := (Option.bind_some _ _).symm.trans H; with_reducible exact ak) | with_reducible exact H | (rw [bp]; exact H) | exact H
                   have dG := G.m bp; clear bp; have H' := G.m H; clear H; obtain ⟨fe, ee, ef⟩ := Kd.R_slice ay.out; subst ef; have a9 : 0 ≤ (ae : Int) := of_decide_eq_true (G.asm); have a_ : ae < (ah.length : Int) := of_decide_eq_true (G.asm); obtain ⟨bF, ch, cQ⟩ := Kd.at_int (Kd.R_reads' ay.out).2.2 ae a9 a_; cases ch; replace a9 := eq_true a9; replace a_ := eq_true a_; have ba : 0 ≤ ((rd ah ae) : Int) := of_decide_eq_true (G.asm); have bc : (rd ah ae) < (ax.length : Int) := of_decide_eq_true (G.asm); obtain ⟨b5, ci, az⟩ := Kd.at_bool (Kd.R_reads' af.out).2.2 (rd ah ae) ba bc; (try rw [← cG.out] at az); obtain rfl : (⟨a3, 0, none⟩ : Addr) = b5 := (by injection ci); (first | simp only [add_plain] at az | simp only [add_at] at az | simp only [Addr.add, Nat.zero_add] at az | skip); replace ba := eq_true ba; replace bc := eq_true bc; have cj : 0 ≤ (ae : Int) := of_decide_eq_true (G.asm); have ck : ae < (ah.length : Int) := of_decide_eq_true (G.asm); obtain ⟨dH, eg, ex⟩ := Kd.at_int (Kd.R_reads' ay.out).2.2 ae cj ck; obtain rfl : bF = dH := (by injection eg); replace cj := eq_true cj; replace ck := eq_true ck; have dd : 0 ≤ ((rd ah ae) : Int) := of_decide_eq_true (G.asm); have de : ((rd ah ae) : Int) < ((ax.length : Int) : Int) := of_decide_eq_true (G.asm); obtain ⟨eO, eP⟩ := Kd.R_celln false af.out ((rd ah ae) : Int) dd de; replace dd := eq_true dd; replace de := eq_true de; have cl := Kd.R_putg af.out ((rd ah ae) : Int) true
                   go_wp2_with (first | ((with_reducible refine gate_store (t := 4) (p := 51) rfl ?_); refine store_event (t := 4) (p := 51) (v := ?vo_w39) (w1 := (wr.setCell ⟨a3, ((rd ah ae) : Int).toNat, none⟩ (.bool true))) ?hg ?ho ?hn ?hr ?_; (case ho => rfl); (case hg => rfl); (case hn => rfl); (case hr => first | (go_simp; done) | (go_simp; rfl)); intro df hw; have hg : wr.grownBy df (some a3) := (by rw [hw]; exact cl.2); have hp_ : Kd.R Kd.bool 4 df w.heap.size (fun _ => True) (.slice (some ⟨a3, 0, none⟩) ax.length bR) b6 := (by rw [hw, dE.out]; exact cl.1); clear cl; have n0 := G.m (hp_); have n1 := G.m (Kd.Q_over' (v := (.slice (some ⟨a3, 0, none⟩) ax.length bR)) (caax) (Kd.R_typed af.out) (by decide) hg); have n2 := G.m (Kd.R_over' (v := (.slice (some ⟨a3, 0, none⟩) ax.length bR)) (G.cR ay.out) (Kd.R_typed af.out) (by decide) hg); have n3 := G.bg ac hg (Kd.R_ne af.out ac.out (by decide)); have n4 := G.m ((by rw [hw]; exact below_set (HB.out) dV.out : Below w.heap.size w df)); clear af ap ay ac HB; revert n0 n1 n2 n3 n4; intro af ap ay ac HB; clear hg hw hp_; have cm : 0 ≤ (ae : Int) := of_decide_eq_true (G.asm); have cn : ae < (ah.length : Int) := of_decide_eq_true (G.asm); obtain ⟨dI, eh, ey⟩ := Kd.at_int (Kd.R_reads' ay.out).2.2 ae cm cn; obtain rfl : bF = dI := (by injection eh); replace cm := eq_true cm; replace cn := eq_true cn) | ((with_reducible refine gate_builtin (b := .append) (xs := #[.tmp 52, .tmp 57]) rfl ?_); at_builtin; refine Kd.Q_append (Kd.int .i64) (w0 := w) w.heap.size rfl (.tmp 52) (.tmp 57) 45 3 (.int .i64 0) 8 rfl Try.underlying45 info3 rfl (by decide) (by omega) u6 ai (rd ah ae) [.int .i64 (rd ah ae)] (fun k_ => some k_ ≠ (.slice (some bF) ah.length ee : Value).ownBlock) (fun _ => False) rfl rfl ?aP (fun _ hk => hk.elim) ?aF ?aO ?aB ?aS ?aL ?_; (case aP => exact rfl); (case aB => exact (G.cB HB.out)); (case aF => exact (fun k_ hk => Kd.fresh' (Kd.R_lt (G.cR ay.out)) k_ hk)); (case aO => exact (caax)); (case aS => exact (below_size (G.cB HB.out))); (case aL => have := dF.out; omega); intro ff fA ho hb hg hat; rw [← dG.out] at ho; have n0 := G.m (Kd.R_over' (G.cR af.out) (Kd.Q_typed (caax)) (by decide) hg); have n1 := G.m (Kd.R_after (ok := (fun _ => True)) (by (with_reducible repeat (first | apply Kd.R_alloc | apply Kd.R_drewN | apply Kd.R_drew)); exact Kd.R_mono ay.out (fun _ hk => ⟨trivial, hk⟩)) hg hat); have n2 := G.bg ac hg (Kd.Q_ne ap.out ac.out (by decide)); have n3 := G.m (hb); have n4 := G.m (ho); clear af ay ac HB ap; revert n0 n1 n2 n3 n4; intro af ay ac HB dJ; clear ho hb hg hat))
                   (try simp only [← aw])
                   go_roundg k2
                   case measure => have := aZ.out; have := bH.out; omega
                   case rel => exact ⟨(b6), (dc), (wrap64 (ae + 1)), (caav), H', ⟨caay⟩, ⟨caaA⟩, ⟨by (try simp only [au]); (try simp only [aw]); (with_reducible repeat (first | apply Kd.Q_alloc | apply Kd.Q_drewN | apply Kd.Q_drew)); exact dJ.out⟩, ⟨by (try simp only [au]); (try simp only [aw]); (with_reducible repeat (first | apply Kd.R_alloc | apply Kd.R_drewN | apply Kd.R_drew)); exact Kd.R_mono ay.out (fun _ hk => hk.2)⟩, ⟨caaz⟩, ⟨G.cB HB.out⟩⟩
                  ·rw [if_neg cI] at H; exact absurd H (by simp)
                ·rw [if_neg cF] at H; exact absurd H (by simp)
               ·rw [if_neg cE] at H; exact absurd H (by simp)
              ·rw [if_neg cD] at H; exact absurd H (by simp)
             ·rw [if_neg bU] at H; have dD : decide (ae < (ah.length : Int)) = false := decide_eq_false bU; clear bU; have H' := G.m H; clear H; obtain ⟨fg, fh, ei⟩ := Kd.R_slice ay.out; subst ei
              go_wp2; (try simp only [← au, ← aw])
              go_roundg k2
              case measure => have := aZ.out; have := bH.out; omega
              case rel => exact ⟨(ax), (ai), H', ⟨caay⟩, ⟨caaA⟩, ⟨by (try simp only [au]); (try simp only [aw]); (with_reducible repeat (first | apply Kd.Q_alloc | apply Kd.Q_drewN | apply Kd.Q_drew)); exact Kd.Q_mono ap.out (fun _ hk => trivial)⟩, ⟨caaz⟩, ⟨G.cB HB.out⟩⟩
          ·rw [if_neg b9] at H; exact absurd H (by simp)
         ·rw [if_neg cv] at H; exact absurd H (by simp)
        ·rw [if_neg bS] at H; have ct : decide (0 < (ag.length : Int)) = false := decide_eq_false bS; have cu : decide (0 < ag.length) = false := decide_eq_false (by omega); clear bS; obtain rfl := Option.some.inj H; obtain ⟨fi, fj, ej, _⟩ := Kd.Q_slice ap.out; subst ej
         go_wp2
         go_ret
         exact ⟨_, by first | rfl | (simp [errW_none, errW_some] <;> rfl) | (simp [*, errW_none, errW_some] <;> rfl), G.cR af.out, G.cB HB.out⟩
     ·rw [if_neg c8] at H; exact absurd H (by simp)
    ·rw [if_neg c7] at H; exact absurd H (by simp)
   ·rw [if_neg c6] at H; exact absurd H (by simp)
  ·rw [if_neg c5] at H; exact absurd H (by simp)
 ·replace c4 := Bool.eq_false_iff.mpr c4; subst c4; have H1 : (some (([] : List Bool))) = some r := by rw [if_neg (show ¬ (false = true) by decide)] at H; exact H
  clear H; have H := H1; clear H1; obtain ⟨ek, bq⟩ : ∃ y_ : List Bool, y_ = (([] : List Bool)) := ⟨_, rfl⟩; replace H : (some ek) = some r := by first | (rw [bq]; with_reducible exact H) | (have ak := (Option.bind_some _ _).symm.trans H; rw [bq]; with_reducible exact ak) | (have ak := (Option.bind_some _ _).symm.trans H; with_reducible exact ak) | with_reducible exact H | (rw [bq]; exact H) | exact H
  have cJ := G.m bq; clear bq; obtain rfl := Option.some.inj H
  go_enter Try.func115, Try.ntmps115
  go_wp2_with (first | ((with_reducible refine G.h 2 rfl ?_); refine G.be 2 #[.int .i64 aa, .slice al ab.length am] 31 ?_; intro aK hg eQ hbox hb; have n0 := G.bs HB hb; have n1 := G.m (hbox); have n2 := G.m (caaw : w.heap.size ≤ aK); have n3 := G.m (caaw : w.heap.size ≤ aK); clear HB; revert n0 n1 n2 n3; intro HB ac du dv; clear hb hbox hg; have ⟨ez, eA, eB, eC⟩ := G.d2 (w := eQ) ac) | ((with_reducible refine G.f 85 rfl ?_); refine G.gL 11 Try.func85 #[.agg #[.int .i64 aa, .slice al ab.length am], .int .i64 a1] ?_; (with_reducible refine (spec_l1Knot.calls k aa _ _ ab a1 false _ ?side1 ?side2 A3.out).mono ?_); (case side1 => exact G.cC (Kd.C_below aH.out HB.out)); (case side2 => exact aI.out); rintro e fB ⟨rfl, hb⟩; refine ⟨_, rfl, ?_⟩; have n0 := G.bb ac hb; have n1 := G.bs HB hb; clear ac HB; revert n0 n1; intro ac HB; (try clear hb)) | ((with_reducible refine G.h 13 rfl ?_); refine Kd.R_lit Kd.bool _ 4 ?hg (N := 13) ?hd (xs := ([] : List Bool)) (inner := []) (ok := fun _ => True) (okp := fun _ => True) ?hr ?hp (fun _ hk => hk) trivial (Below.refl _ _) (Nat.le_refl _) (by simp) ?_; (case hd => rfl); (case hg => rfl); (case hr => first | (go_simp; done) | (go_simp; rfl)); (case hp => exact (Reps.none _ _)); intro fk fC bL hb hg_ hnew_; clear hg_ hnew_; (first | rw [← cJ.out] at bL | (simp only [Int.reduceToNat] at bL; rw [← cJ.out] at bL)); have n0 := G.m (Kd.R_lower bL (below_size (G.cB HB.out))); have n1 := G.bb ac hb; have n2 := G.bs HB hb; clear ac HB; revert n0 n1 n2; intro dK ac HB; clear hb bL))
  go_ret
  exact ⟨_, by first | rfl | (simp [errW_none, errW_some] <;> rfl) | (simp [*, errW_none, errW_some] <;> rfl), G.cR dK.out, G.cB HB.out⟩

/-! ### spec_WayParts: function 92 -/
mutual
def spec_WayParts.l0 : Nat → List Int → Int → Int → List (S59) → Option (List Int)
 | 0, _, _, _, _ => none
 | k + 1, x3, x4, aR, aX => if x4 < aR then ((spec_WayReach.f k aR aX x4).bind fun aE => (spec_WayParts.l1 k x3 x4 aE 0 aR aX)) else (some x3)
def spec_WayParts.l1 : Nat → List Int → Int → List Bool → Int → Int → List (S59) → Option (List Int)
 | 0, _, _, _, _, _, _ => none
 | k + 1, x3, x4, x5, x6, aR, aX => if 0 ≤ x6 then (if x6 < (x5.length : Int) then (if rdOf false x5 x6 = true then (if x3.length < 17592186044416 then (spec_WayParts.l0 k (x3 ++ [x6]) (wrap64 (x4 + 1)) aR aX) else (none)) else (spec_WayParts.l1 k x3 x4 x5 (wrap64 (x6 + 1)) aR aX)) else (none)) else (none)
end
def spec_WayParts.f (k : Nat) (aa : Int) (ab : List (S59)) : Option (List Int) := (some (([] : List Int) : List Int)).bind fun aG => ((spec_NetOk.f k aa ab).bind fun a5 => (if a5 = true then (spec_WayParts.l0 k aG 0 aa ab) else (some aG)))
theorem spec_WayParts.mono_l : ∀ k, (∀ y0 y1 y2 y3, LeO (spec_WayParts.l0 k y0 y1 y2 y3) (spec_WayParts.l0 (k + 1) y0 y1 y2 y3)) ∧ (∀ y0 y1 y2 y3 y4 y5, LeO (spec_WayParts.l1 k y0 y1 y2 y3 y4 y5) (spec_WayParts.l1 (k + 1) y0 y1 y2 y3 y4 y5))
 | 0 => ⟨fun _ _ _ _ r h => by simp [spec_WayParts.l0] at h, fun _ _ _ _ _ _ r h => by simp [spec_WayParts.l1] at h⟩
 | k + 1 => by
  obtain ⟨aJ, a4⟩ := spec_WayParts.mono_l k; refine ⟨?_, ?_⟩ <;> intros
  all_goals first | unfold spec_WayParts.l0 | unfold spec_WayParts.l1
  repeat' first | (with_reducible first | exact aJ _ _ _ _ | exact a4 _ _ _ _ _ _ | exact spec_NetOk.mono _ _ _ | exact spec_WayReach.mono _ _ _ _ | exact LeO.refl _ | exact LeO.none _ | refine LeO.ite ?_ ?_ | refine LeO.bind ?_ (fun _ => ?_)) | exact aJ _ _ _ _ | exact a4 _ _ _ _ _ _ | exact spec_NetOk.mono _ _ _ | exact spec_WayReach.mono _ _ _ _ | exact LeO.none _ | refine LeO.ite ?_ ?_ | refine LeO.bind ?_ (fun _ => ?_)
theorem spec_WayParts.mono : ∀ a0 a1 k, LeO (spec_WayParts.f k a0 a1) (spec_WayParts.f (k + 1) a0 a1) := by
 intro a0 a1 k; obtain ⟨aJ, a4⟩ := spec_WayParts.mono_l k; unfold spec_WayParts.f
 repeat' first | (with_reducible first | exact aJ _ _ _ _ | exact a4 _ _ _ _ _ _ | exact spec_NetOk.mono _ _ _ | exact spec_WayReach.mono _ _ _ _ | exact LeO.refl _ | exact LeO.none _ | refine LeO.ite ?_ ?_ | refine LeO.bind ?_ (fun _ => ?_)) | exact aJ _ _ _ _ | exact a4 _ _ _ _ _ _ | exact spec_NetOk.mono _ _ _ | exact spec_WayReach.mono _ _ _ _ | exact LeO.none _ | refine LeO.ite ?_ ?_ | refine LeO.bind ?_ (fun _ => ?_)
set_option maxHeartbeats 8000000 in
set_option maxRecDepth 100000 in
theorem spec_WayParts.calls (k : Nat) (aa : Int) (al : Option Addr) (am : Nat) (ab : List (S59)) (r : List Int) (w : World) (aU : Kd.C k59 w al ab.length ab) (aV : ab.length ≤ am) (h : spec_WayParts.f k aa ab = some r) :
  Calls Try.prog 92 #[.agg #[.int .i64 aa, .slice al ab.length am]] w fun e w' => ∃ bD : Value, e = .returned (bD) ∧ Kd.R (Kd.int .i64) 3 w' w.heap.size (fun _ => True) bD r ∧ Below w.heap.size w w' := by
 have cS := Try.underlying31; have aH := G.m aU; have aI := G.m aV; clear aU aV; have HB := G.m (Below.refl w.heap.size w); have H : ((some (([] : List Int) : List Int)).bind fun aG => ((spec_NetOk.f k aa ab).bind fun a5 => (if a5 = true then (spec_WayParts.l0 k aG 0 aa ab) else (some aG)))) = some r := h; clear h; obtain ⟨aG, br⟩ : ∃ y_ : List Int, y_ = (([] : List Int)) := ⟨_, rfl⟩; replace H : ((spec_NetOk.f k aa ab).bind fun a5 => (if a5 = true then (spec_WayParts.l0 k aG 0 aa ab) else (some aG))) = some r := by first | (rw [br]; with_reducible exact H) | (have ak := (Option.bind_some _ _).symm.trans H; rw [br]; with_reducible exact ak) | (have ak := (Option.bind_some _ _).symm.trans H; with_reducible exact ak) | with_reducible exact H | (rw [br]; exact H) | exact H
 have bG := G.m br; clear br; obtain ⟨a5, A2, H⟩ := G.bi H; replace H : (if a5 = true then (spec_WayParts.l0 k aG 0 aa ab) else (some aG)) = some r := H
 by_cases c3 : a5 = true
 ·subst c3; have H1 : (spec_WayParts.l0 k aG 0 aa ab) = some r := by rw [if_pos rfl] at H; exact H
  clear H; have H := H1; clear H1; have H' := G.m H; clear H
  go_enter Try.func92, Try.ntmps92
  go_wp2_with (first | ((with_reducible refine G.h 1 rfl ?_); refine G.be 1 #[.int .i64 aa, .slice al ab.length am] 31 ?_; intro aY hg w4 hbox hb; have n0 := G.bs HB hb; have n1 := G.m (hbox); have n2 := G.m (caaw : w.heap.size ≤ aY); have n3 := G.m (caaw : w.heap.size ≤ aY); clear HB; revert n0 n1 n2 n3; intro HB aj dL dM; clear hb hbox hg) | ((with_reducible refine G.h 7 rfl ?_); refine Kd.R_lit (Kd.int .i64) _ 3 ?hg (N := 7) ?hd (xs := ([] : List Int)) (inner := []) (ok := fun _ => True) (okp := fun _ => True) ?hr ?hp (fun _ hk => hk) trivial (Below.refl _ _) (Nat.le_refl _) (by simp) ?_; (case hd => rfl); (case hg => rfl); (case hr => first | (go_simp; done) | (go_simp; rfl)); (case hp => exact (Reps.none _ _)); intro el w5 ca hb hg_ hnew_; clear hg_ hnew_; (first | rw [← bG.out] at ca | (simp only [Int.reduceToNat] at ca; rw [← bG.out] at ca)); have n0 := G.m (Kd.R_lower ca (below_size (G.cB HB.out))); have n1 := G.bb aj hb; have n2 := G.bs HB hb; clear aj HB; revert n0 n1 n2; intro aM aj HB; clear hb ca; have ⟨dg, dh, di, dj⟩ := G.d2 (w := w5) aj) | ((with_reducible refine G.f 32 rfl ?_); refine G.gL 9 Try.func32 #[.agg #[.int .i64 aa, .slice al ab.length am]] ?_; (with_reducible refine (spec_NetOk.calls k aa _ _ ab true _ ?side1 ?side2 A2.out).mono ?_); (case side1 => exact G.cC (Kd.C_below aH.out HB.out)); (case side2 => exact aI.out); rintro e w8 ⟨rfl, hb⟩; refine ⟨_, rfl, ?_⟩; have n0 := G.rb aM hb; have n1 := G.bb aj hb; have n2 := G.bs HB hb; clear aM aj HB; revert n0 n1 n2; intro aM aj HB; (try clear hb)))
  go_loopg [3, 4] k (fun kq v3 v4 w' => ∃ (aC : List Int) (aA : Int), v4 = .int .i64 aA ∧ Aside0 (spec_WayParts.l0 kq aC aA aa ab = some r) ∧ Aside0 (kq ≤ k) ∧ Aside0 (Kd.R (Kd.int .i64) 3 w' w.heap.size (fun _ => True) v3 aC) ∧ Aside0 (w'.heap[aY]? = some (.cells #[.int .i64 aa, (.slice al ab.length am)] 31 (0, 0))) ∧ Aside0 (Below w.heap.size w w'))
  case atStart => exact ⟨(aG), (0), (caav), H', ⟨Nat.le_refl _⟩, ⟨G.cR aM.out⟩, ⟨G.cb aj.out⟩, ⟨G.cB HB.out⟩⟩
  case round =>
   clear H'; (try clear c3 dg dh di dj); obtain ⟨aC, aA, rfl, HA, aZ, aT, aj, HB⟩ := hrel; cases gk with
   | zero => exact absurd HA.out (by simp [spec_WayParts.l0])
   | succ k1 =>
    have H := HA.out; clear HA; simp only [spec_WayParts.l0] at H
    by_cases c9 : aA < aa
    ·rw [if_pos c9] at H; have dk : decide (aA < aa) = true := decide_eq_true c9; clear c9; obtain ⟨aE, eR, H⟩ := G.bi H; replace H : (spec_WayParts.l1 k1 aC aA aE 0 aa ab) = some r := H; have H' := G.m H; clear H; have ⟨bx, bz, bA, bB⟩ := G.d2 (w := wr) aj
     go_wp2_with (first | ((with_reducible refine G.f 115 rfl ?_); refine G.gL 20 Try.func115 #[.agg #[.int .i64 aa, .slice al ab.length am], .int .i64 aA] ?_; (with_reducible refine (spec_WayReach.calls k1 aa _ _ ab aA aE _ ?side1 ?side2 eR.out).mono ?_); (case side1 => exact G.cC (Kd.C_below aH.out HB.out)); (case side2 => exact aI.out); rintro e cW ⟨em, rfl, bT, hb⟩; refine ⟨_, rfl, ?_⟩; have n0 := G.rb aT hb; have n1 := G.m (Kd.R_lower bT (below_size (G.cB HB.out))); have n2 := G.bb aj hb; have n3 := G.bs HB hb; clear aT aj HB; revert n0 n1 n2 n3; intro aT dN aj HB; (try clear hb bT)))
     go_loopg [6] k1 (fun kq v6 w' => ∃ (ai : Int), v6 = .int .i64 ai ∧ Aside0 (spec_WayParts.l1 kq aC aA aE ai aa ab = some r) ∧ Aside0 (kq ≤ k1) ∧ Aside0 (Kd.R (Kd.int .i64) 3 w' w.heap.size (fun _ => True) u3 aC) ∧ Aside0 (Kd.R Kd.bool 4 w' w.heap.size (fun _ => True) em aE) ∧ Aside0 (w'.heap[aY]? = some (.cells #[.int .i64 aa, (.slice al ab.length am)] 31 (0, 0))) ∧ Aside0 (Below w.heap.size w w'))
     case atStart => exact ⟨(0), (caav), H', ⟨Nat.le_refl _⟩, ⟨G.cR aT.out⟩, ⟨G.cR dN.out⟩, ⟨G.cb aj.out⟩, ⟨G.cB HB.out⟩⟩
     case round =>
      clear H'; (try clear dk bx bz bA bB); obtain ⟨ai, rfl, HA, bH, aT, af, aj, HB⟩ := hrel; cases gk with
      | zero => exact absurd HA.out (by simp [spec_WayParts.l1])
      | succ k2 =>
       have H := HA.out; clear HA; simp only [spec_WayParts.l1] at H
       by_cases cL : 0 ≤ ai
       ·rw [if_pos cL] at H; have e4 : decide (0 ≤ ai) = true := decide_eq_true cL; clear cL
        by_cases cM : ai < (aE.length : Int)
        ·rw [if_pos cM] at H; have e5 : decide (ai < (aE.length : Int)) = true := decide_eq_true cM; clear cM; obtain ⟨dl, b7⟩ : ∃ b_ : Bool, b_ = (rdOf false aE ai) := ⟨_, rfl⟩; replace H : (if dl = true then (if aC.length < 17592186044416 then (spec_WayParts.l0 k2 (aC ++ [ai]) (wrap64 (aA + 1)) aa ab) else (none)) else (spec_WayParts.l1 k2 aC aA aE (wrap64 (ai + 1)) aa ab)) = some r := by rw [← b7] at H; exact H
         have cN := G.m b7; clear b7
         by_cases cO : dl = true
         ·subst cO; have H1 : (if aC.length < 17592186044416 then (spec_WayParts.l0 k2 (aC ++ [ai]) (wrap64 (aA + 1)) aa ab) else (none)) = some r := by rw [if_pos rfl] at H; exact H
          clear H; have H := H1; clear H1
          by_cases cP : aC.length < 17592186044416
          ·rw [if_pos cP] at H; have dO := G.m cP; clear cP; obtain ⟨dn, bu⟩ : ∃ y_ : List Int, y_ = (aC ++ [ai]) := ⟨_, rfl⟩; replace H : (spec_WayParts.l0 k2 dn (wrap64 (aA + 1)) aa ab) = some r := by first | (rw [bu]; with_reducible exact H) | (have ak := (Option.bind_some _ _).symm.trans H; rw [bu]; with_reducible exact ak) | (have ak := (Option.bind_some _ _).symm.trans H; with_reducible exact ak) | with_reducible exact H | (rw [bu]; exact H) | exact H
           have dP := G.m bu; clear bu; have H' := G.m H; clear H; obtain ⟨fm, fo, en⟩ := Kd.R_slice af.out; subst en; have bd : 0 ≤ (ai : Int) := of_decide_eq_true (G.asm); have bf : ai < (aE.length : Int) := of_decide_eq_true (G.asm); obtain ⟨dQ, co, bC⟩ := Kd.at_bool (Kd.R_reads' af.out).2.2 ai bd bf; (try rw [← cN.out] at bC); cases co; replace bd := eq_true bd; replace bf := eq_true bf
           go_wp2_with (first | ((with_reducible refine gate_builtin (b := .append) (xs := #[.tmp 28, .tmp 30]) rfl ?_); at_builtin; refine Kd.R_append (Kd.int .i64) (w0 := w) w.heap.size rfl (.tmp 28) (.tmp 30) 45 3 (.int .i64 0) 8 rfl Try.underlying45 info3 rfl (by decide) (by omega) u3 aC ai [.int .i64 ai] (fun _ => True) (fun _ => False) rfl rfl ?aP (fun _ hk => hk.elim) ?aF ?aO ?aB ?aS ?aL ?_; (case aP => exact rfl); (case aB => exact (G.cB HB.out)); (case aF => exact (fun _ _ => trivial)); (case aO => exact (G.cR aT.out)); (case aS => exact (below_size (G.cB HB.out))); (case aL => have := dO.out; omega); intro fp fD ho hb hg hat; rw [← dP.out] at ho; have n0 := G.m (Kd.R_over' (G.cR af.out) (Kd.R_typed (G.cR aT.out)) (by decide) hg); have n1 := G.bg aj hg (Kd.R_ne aT.out aj.out (by decide)); have n2 := G.m (hb); have n3 := G.m (ho); clear af aj HB aT; revert n0 n1 n2 n3; intro af aj HB dR; clear ho hb hg hat))
           go_roundg k2
           case measure => have := aZ.out; have := bH.out; omega
           case rel => exact ⟨(dn), (wrap64 (aA + 1)), (caav), H', ⟨caay⟩, ⟨G.cR dR.out⟩, ⟨G.cb aj.out⟩, ⟨G.cB HB.out⟩⟩
          ·rw [if_neg cP] at H; exact absurd H (by simp)
         ·replace cO := Bool.eq_false_iff.mpr cO; subst cO; have H1 : (spec_WayParts.l1 k2 aC aA aE (wrap64 (ai + 1)) aa ab) = some r := by rw [if_neg (show ¬ (false = true) by decide)] at H; exact H
          clear H; have H := H1; clear H1; have H' := G.m H; clear H; obtain ⟨fq, ft, eo⟩ := Kd.R_slice af.out; subst eo; have bd : 0 ≤ (ai : Int) := of_decide_eq_true (G.asm); have bf : ai < (aE.length : Int) := of_decide_eq_true (G.asm); obtain ⟨dQ, co, bC⟩ := Kd.at_bool (Kd.R_reads' af.out).2.2 ai bd bf; (try rw [← cN.out] at bC); cases co; replace bd := eq_true bd; replace bf := eq_true bf
          go_wp2
          go_roundg k2
          case measure => have := aZ.out; have := bH.out; omega
          case rel => exact ⟨(wrap64 (ai + 1)), (caav), H', ⟨caay⟩, ⟨G.cR aT.out⟩, ⟨G.cR af.out⟩, ⟨G.cb aj.out⟩, ⟨G.cB HB.out⟩⟩
        ·rw [if_neg cM] at H; exact absurd H (by simp)
       ·rw [if_neg cL] at H; exact absurd H (by simp)
    ·rw [if_neg c9] at H; have dk : decide (aA < aa) = false := decide_eq_false c9; clear c9; obtain rfl := Option.some.inj H; have ⟨eD, eE, eF, eG⟩ := G.d2 (w := wr) aj
     go_wp2
     go_ret
     exact ⟨_, by first | rfl | (simp [errW_none, errW_some] <;> rfl) | (simp [*, errW_none, errW_some] <;> rfl), G.cR aT.out, G.cB HB.out⟩
 ·replace c3 := Bool.eq_false_iff.mpr c3; subst c3; have H1 : (some aG) = some r := by rw [if_neg (show ¬ (false = true) by decide)] at H; exact H
  clear H; have H := H1; clear H1; obtain rfl := Option.some.inj H
  go_enter Try.func92, Try.ntmps92
  go_wp2_with (first | ((with_reducible refine G.h 1 rfl ?_); refine G.be 1 #[.int .i64 aa, .slice al ab.length am] 31 ?_; intro aY hg fE hbox hb; have n0 := G.bs HB hb; have n1 := G.m (hbox); have n2 := G.m (caaw : w.heap.size ≤ aY); have n3 := G.m (caaw : w.heap.size ≤ aY); clear HB; revert n0 n1 n2 n3; intro HB aj dL dM; clear hb hbox hg) | ((with_reducible refine G.h 7 rfl ?_); refine Kd.R_lit (Kd.int .i64) _ 3 ?hg (N := 7) ?hd (xs := ([] : List Int)) (inner := []) (ok := fun _ => True) (okp := fun _ => True) ?hr ?hp (fun _ hk => hk) trivial (Below.refl _ _) (Nat.le_refl _) (by simp) ?_; (case hd => rfl); (case hg => rfl); (case hr => first | (go_simp; done) | (go_simp; rfl)); (case hp => exact (Reps.none _ _)); intro el eS bM hb hg_ hnew_; clear hg_ hnew_; (first | rw [← bG.out] at bM | (simp only [Int.reduceToNat] at bM; rw [← bG.out] at bM)); have n0 := G.m (Kd.R_lower bM (below_size (G.cB HB.out))); have n1 := G.bb aj hb; have n2 := G.bs HB hb; clear aj HB; revert n0 n1 n2; intro aM aj HB; clear hb bM; have ⟨eH, eI, eJ, eK⟩ := G.d2 (w := eS) aj) | ((with_reducible refine G.f 32 rfl ?_); refine G.gL 9 Try.func32 #[.agg #[.int .i64 aa, .slice al ab.length am]] ?_; (with_reducible refine (spec_NetOk.calls k aa _ _ ab false _ ?side1 ?side2 A2.out).mono ?_); (case side1 => exact G.cC (Kd.C_below aH.out HB.out)); (case side2 => exact aI.out); rintro e dW ⟨rfl, hb⟩; refine ⟨_, rfl, ?_⟩; have n0 := G.rb aM hb; have n1 := G.bb aj hb; have n2 := G.bs HB hb; clear aM aj HB; revert n0 n1 n2; intro aM aj HB; (try clear hb)))
  go_ret
  exact ⟨_, by first | rfl | (simp [errW_none, errW_some] <;> rfl) | (simp [*, errW_none, errW_some] <;> rfl), G.cR aM.out, G.cB HB.out⟩

end Go.Proofs.Ytgeonpciodepgaa.P
