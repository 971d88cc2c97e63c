-- Printed by a program of this session (mp.py, over the kit's print). Not trusted: Lean checks it.
import Derived.Test.YtbkdpnfjcnkoeaaF0
import Derived.Test.YtbkdpnfjcnkoeaaF3
namespace Go.Proofs.Ytbkdpnfjcnkoeaa.P
open Go.RowKit Go.Proofs.YtbkdpnfjcnkoeaaW.PrintWords Go.Proofs.YtbkdpnfjcnkoeaaW.PrintLast Go.Proofs.YtbkdpnfjcnkoeaaW.PrintMore
attribute [local go_sem] max2_int min2_int max_two min_two max_three min_three max_four min_four   -- for this text's walks alone
set_option linter.unusedVariables false
set_option linter.unusedSimpArgs false

theorem caay {p : Prop} (h : p := by (try simp only [av]); (try simp only [ax]); (with_reducible repeat (first | refine blk_drewN ?_ _ | refine blk_drew ?_ | refine blk_alloc ?_ _)); exact ae.out) : p := h
theorem caaz {p : Prop} (h : p := by (try simp only [av]); (try simp only [ax]); (with_reducible repeat (first | apply Kd.R_alloc | apply Kd.R_drewN | apply Kd.R_drew)); exact af.out) : p := h
theorem caaw {p : Prop} (h : p := by (with_reducible repeat (first | apply Kd.Q_alloc | apply Kd.Q_drewN | apply Kd.Q_drew)); exact ap.out) : p := h
theorem caax {p : Prop} (h : p := by first | rfl | (simp [errW_none, errW_some] <;> rfl) | (simp [*, errW_none, errW_some] <;> rfl)) : p := h
theorem caau {p : Prop} (h : p := by first | rfl | (simp; done) | (simp [*]; done)) : p := h
theorem caav {p : Prop} (h : p := by rw [hg]; exact (below_size (G.cB HB.out))) : p := h
/-! ### spec_l2Next: function 40 -/
def spec_l2Next.l0 : Nat → Int → List Int → Int → Int → List (S63) → Option (List Int)
 | 0, _, _, _, _, _ => none
 | k + 1, x1, x5, x6, aZ, bq => if x6 < aZ then ((spec_l1Has.f k aZ bq x1 x6).bind fun bO => (if bO = true then (if x5.length < 17592186044416 then (spec_l2Next.l0 k x1 (x5 ++ [x6]) (wrap64 (x6 + 1)) aZ bq) else (none)) else (spec_l2Next.l0 k x1 x5 (wrap64 (x6 + 1)) aZ bq))) else (some x5)
def spec_l2Next.f (k : Nat) (aa : Int) (ab : List (S63)) (a1 : Int) : Option (List Int) := spec_l2Next.l0 k a1 (([] : List Int)) 0 aa ab
theorem spec_l2Next.mono_l : ∀ k, (∀ y0 y1 y2 y3 y4, LeO (spec_l2Next.l0 k y0 y1 y2 y3 y4) (spec_l2Next.l0 (k + 1) y0 y1 y2 y3 y4))
 | 0 => fun _ _ _ _ _ r h => by simp [spec_l2Next.l0] at h
 | k + 1 => by
  have aJ := spec_l2Next.mono_l k
  ·intro y0 y1 y2 y3 y4; unfold spec_l2Next.l0
   repeat' first
   | (with_reducible exact aJ _ _ _ _ _)
   | (with_reducible exact spec_l1Has.mono _ _ _ _ _)
   | (with_reducible exact LeO.refl _)
   | (with_reducible exact LeO.none _)
   | (with_reducible refine LeO.ite ?_ ?_)
   | (with_reducible refine LeO.bind ?_ (fun _ => ?_))
   | exact aJ _ _ _ _ _
   | exact spec_l1Has.mono _ _ _ _ _
   | exact LeO.none _
   | refine LeO.ite ?_ ?_
   | refine LeO.bind ?_ (fun _ => ?_)
theorem spec_l2Next.mono : ∀ a0 a1 a2 k, LeO (spec_l2Next.f k a0 a1 a2) (spec_l2Next.f (k + 1) a0 a1 a2) := by
 intro a0 a1 a2 k; have aJ := spec_l2Next.mono_l k; unfold spec_l2Next.f
 repeat' first | (with_reducible first | exact aJ _ _ _ _ _ | exact spec_l1Has.mono _ _ _ _ _ | exact LeO.refl _ | exact LeO.none _ | refine LeO.ite ?_ ?_ | refine LeO.bind ?_ (fun _ => ?_)) | exact aJ _ _ _ _ _ | exact spec_l1Has.mono _ _ _ _ _ | exact LeO.none _ | refine LeO.ite ?_ ?_ | refine LeO.bind ?_ (fun _ => ?_)
set_option maxHeartbeats 8000000 in
set_option maxRecDepth 100000 in
theorem spec_l2Next.calls (k : Nat) (aa : Int) (ak : Option Addr) (al : Nat) (ab : List (S63)) (a1 : Int) (r : List Int) (w : World) (aR : Kd.C k63 w ak ab.length ab) (aT : ab.length ≤ al) (h : spec_l2Next.f k aa ab a1 = some r) :
  Calls Try.prog 40 #[.agg #[.int .i64 aa, .slice ak ab.length al], .int .i64 a1] w fun e w' => ∃ b1 : Value, e = .returned (b1) ∧ Kd.R (Kd.int .i64) 3 w' w.heap.size (fun _ => True) b1 r ∧ Below w.heap.size w w' := by
 have cQ := Try.underlying29; have aA := G.m aR; have aC := G.m aT; clear aR aT; have HB := G.m (Below.refl w.heap.size w); have H : (spec_l2Next.l0 k a1 (([] : List Int)) 0 aa ab) = some r := h; clear h; obtain ⟨cS, bd⟩ : ∃ y_ : List Int, y_ = (([] : List Int)) := ⟨_, rfl⟩; replace H : (spec_l2Next.l0 k a1 cS 0 aa ab) = some r := by first | (rw [bd]; with_reducible exact H) | (have am := (Option.bind_some _ _).symm.trans H; rw [bd]; with_reducible exact am) | (have am := (Option.bind_some _ _).symm.trans H; with_reducible exact am) | with_reducible exact H | (rw [bd]; exact H) | exact H
 have ck := G.m bd; clear bd; have H' := G.m H; clear H
 go_enter Try.func40, Try.ntmps40
 go_wp2_with (first | ((with_reducible refine G.h 2 rfl ?_); refine G.be 2 #[.int .i64 aa, .slice ak ab.length al] 29 ?_; intro bP hg w3 hbox hb; have n0 := G.bs HB hb; have n1 := G.m (hbox); have n2 := G.m (caav : w.heap.size ≤ bP); have n3 := G.m (caav : w.heap.size ≤ bP); clear HB; revert n0 n1 n2 n3; intro HB ao fo fp; clear hb hbox hg) | ((with_reducible refine G.h 7 rfl ?_); refine Kd.R_lit (Kd.int .i64) _ 3 ?hg (N := 7) ?hd (xs := ([] : List Int)) (inner := []) (ok := fun _ => True) (okp := fun _ => True) ?hr ?hp (fun _ hk => hk) trivial (Below.refl _ _) (Nat.le_refl _) (by simp) ?_; (case hd => rfl); (case hg => rfl); (case hr => first | (go_simp; done) | (go_simp; rfl)); (case hp => exact (Reps.none _ _)); intro fz w4 b2 hb hg_ hnew_; clear hg_ hnew_; (first | rw [← ck.out] at b2 | (simp only [Int.reduceToNat] at b2; rw [← ck.out] at b2)); have n0 := G.m (Kd.R_lower b2 (below_size (G.cB HB.out))); have n1 := G.bb ao hb; have n2 := G.bs HB hb; clear ao HB; revert n0 n1 n2; intro dq ao HB; clear hb b2))
 go_loopg [5, 6] k (fun kq v5 v6 w' => ∃ (au : List Int) (ac : Int), v6 = .int .i64 ac ∧ Aside0 (spec_l2Next.l0 kq a1 au ac aa ab = some r) ∧ Aside0 (kq ≤ k) ∧ Aside0 (Kd.R (Kd.int .i64) 3 w' w.heap.size (fun _ => True) v5 au) ∧ Aside0 (w'.heap[bP]? = some (.cells #[.int .i64 aa, (.slice ak ab.length al)] 29 (0, 0))) ∧ Aside0 (Below w.heap.size w w'))
 case atStart => exact ⟨(cS), (0), (caau), H', ⟨Nat.le_refl _⟩, ⟨G.cR dq.out⟩, ⟨G.cb ao.out⟩, ⟨G.cB HB.out⟩⟩
 case round =>
  clear H'; obtain ⟨au, ac, rfl, HA, aK, af, ao, HB⟩ := hrel; cases gk with
  | zero => exact absurd HA.out (by simp [spec_l2Next.l0])
  | succ k1 =>
   have H := HA.out; clear HA; simp only [spec_l2Next.l0] at H
   by_cases c6 : ac < aa
   ·rw [if_pos c6] at H; have b5 : decide (ac < aa) = true := decide_eq_true c6; clear c6; obtain ⟨bO, A7, H⟩ := G.bi H; replace H : (if bO = true then (if au.length < 17592186044416 then (spec_l2Next.l0 k1 a1 (au ++ [ac]) (wrap64 (ac + 1)) aa ab) else (none)) else (spec_l2Next.l0 k1 a1 au (wrap64 (ac + 1)) aa ab)) = some r := H
    by_cases c8 : bO = true
    ·subst c8; have H1 : (if au.length < 17592186044416 then (spec_l2Next.l0 k1 a1 (au ++ [ac]) (wrap64 (ac + 1)) aa ab) else (none)) = some r := by rw [if_pos rfl] at H; exact H
     clear H; have H := H1; clear H1
     by_cases c9 : au.length < 17592186044416
     ·rw [if_pos c9] at H; have d9 := G.m c9; clear c9; obtain ⟨cT, bf⟩ : ∃ y_ : List Int, y_ = (au ++ [ac]) := ⟨_, rfl⟩; replace H : (spec_l2Next.l0 k1 a1 cT (wrap64 (ac + 1)) aa ab) = some r := by first | (rw [bf]; with_reducible exact H) | (have am := (Option.bind_some _ _).symm.trans H; rw [bf]; with_reducible exact am) | (have am := (Option.bind_some _ _).symm.trans H; with_reducible exact am) | with_reducible exact H | (rw [bf]; exact H) | exact H
      have dr := G.m bf; clear bf; have H' := G.m H; clear H; have ⟨ew, ex, ey, ez⟩ := G.d2 (w := wr) ao
      go_wp2_with (first | ((with_reducible refine G.f 61 rfl ?_); refine G.gL 17 Try.func61 #[.agg #[.int .i64 aa, .slice ak ab.length al], .int .i64 a1, .int .i64 ac] ?_; (with_reducible refine (spec_l1Has.calls k1 aa _ _ ab a1 ac true _ ?side1 ?side2 A7.out).mono ?_); (case side1 => exact G.cC (Kd.C_below aA.out HB.out)); (case side2 => exact aC.out); rintro e fY ⟨rfl, hb⟩; refine ⟨_, rfl, ?_⟩; have n0 := G.rb af hb; have n1 := G.bb ao hb; have n2 := G.bs HB hb; clear af ao HB; revert n0 n1 n2; intro af ao HB; (try clear hb)) | ((with_reducible refine gate_builtin (b := .append) (xs := #[.tmp 18, .tmp 20]) rfl ?_); at_builtin; refine Kd.R_append (Kd.int .i64) (w0 := w) w.heap.size rfl (.tmp 18) (.tmp 20) 33 3 (.int .i64 0) 8 rfl Try.underlying33 info3 rfl (by decide) (by omega) u5 au ac [.int .i64 ac] (fun _ => True) (fun _ => False) rfl rfl ?aP (fun _ hk => hk.elim) ?aF ?aO ?aB ?aS ?aL ?_; (case aP => exact rfl); (case aB => exact (G.cB HB.out)); (case aF => exact (fun _ _ => trivial)); (case aO => exact (G.cR af.out)); (case aS => exact (below_size (G.cB HB.out))); (case aL => have := d9.out; omega); intro fA dW ho hb hg hat; rw [← dr.out] at ho; have n0 := G.bg ao hg (Kd.R_ne af.out ao.out (by decide)); have n1 := G.m (hb); have n2 := G.m (ho); clear ao HB af; revert n0 n1 n2; intro ao HB dt; clear ho hb hg hat))
      go_roundg k1
      case measure => have := aK.out; omega
      case rel => exact ⟨(cT), (wrap64 (ac + 1)), (caau), H', ⟨by have := aK.out; omega⟩, ⟨G.cR dt.out⟩, ⟨G.cb ao.out⟩, ⟨G.cB HB.out⟩⟩
     ·rw [if_neg c9] at H; exact absurd H (by simp)
    ·replace c8 := Bool.eq_false_iff.mpr c8; subst c8; have H1 : (spec_l2Next.l0 k1 a1 au (wrap64 (ac + 1)) aa ab) = some r := by rw [if_neg (show ¬ (false = true) by decide)] at H; exact H
     clear H; have H := H1; clear H1; have H' := G.m H; clear H; have ⟨bE, bF, bG, bH⟩ := G.d2 (w := wr) ao
     go_wp2_with (first | ((with_reducible refine G.f 61 rfl ?_); refine G.gL 17 Try.func61 #[.agg #[.int .i64 aa, .slice ak ab.length al], .int .i64 a1, .int .i64 ac] ?_; (with_reducible refine (spec_l1Has.calls k1 aa _ _ ab a1 ac false _ ?side1 ?side2 A7.out).mono ?_); (case side1 => exact G.cC (Kd.C_below aA.out HB.out)); (case side2 => exact aC.out); rintro e cU ⟨rfl, hb⟩; refine ⟨_, rfl, ?_⟩; have n0 := G.rb af hb; have n1 := G.bb ao hb; have n2 := G.bs HB hb; clear af ao HB; revert n0 n1 n2; intro af ao HB; (try clear hb)))
     go_roundg k1
     case measure => have := aK.out; omega
     case rel => exact ⟨(au), (wrap64 (ac + 1)), (caau), H', ⟨by have := aK.out; omega⟩, ⟨G.cR af.out⟩, ⟨G.cb ao.out⟩, ⟨G.cB HB.out⟩⟩
   ·rw [if_neg c6] at H; have b5 : decide (ac < aa) = false := decide_eq_false c6; clear c6; obtain rfl := Option.some.inj H; have ⟨eA, eB, eC, eD⟩ := G.d2 (w := wr) ao
    go_wp2
    go_ret
    exact ⟨_, by first | rfl | (simp [errW_none, errW_some] <;> rfl) | (simp [*, errW_none, errW_some] <;> rfl), G.cR af.out, G.cB HB.out⟩

/-! ### spec_WayReach: function 39 -/
mutual
def spec_WayReach.l0 : Nat → List Bool → List Int → Int → List (S63) → Option (List Bool)
 | 0, _, _, _, _ => none
 | k + 1, x5, x6, aN, aQ => if (x6.length : Int) > 0 then (if 0 < (x6.length : Int) then ((spec_l2Next.f k aN aQ (rd x6 0)).bind fun ah => (if 1 ≤ (x6.length : Int) then (spec_WayReach.l1 k x5 (x6.drop (1 : Int).toNat) ah 0 aN aQ) else (none))) else (none)) else (some x5)
def spec_WayReach.l1 : Nat → List Bool → List Int → List Int → Int → Int → List (S63) → Option (List Bool)
 | 0, _, _, _, _, _, _ => none
 | k + 1, x5, x6, x7, x8, aN, aQ => if x8 < (x7.length : Int) then (if 0 ≤ x8 then (if 0 ≤ (rd x7 x8) then (if (rd x7 x8) < (x5.length : Int) then (if (rdOf false x5 (rd x7 x8) = true) then (spec_WayReach.l1 k x5 x6 x7 (wrap64 (x8 + 1)) aN aQ) else (if x6.length < 17592186044416 then (spec_WayReach.l1 k (x5.set ((rd x7 x8) : Int).toNat true) (x6 ++ [rd x7 x8]) x7 (wrap64 (x8 + 1)) aN aQ) else (none))) else (none)) else (none)) else (none)) else (spec_WayReach.l0 k x5 x6 aN aQ)
end
def spec_WayReach.f (k : Nat) (aa : Int) (ab : List (S63)) (a1 : Int) : Option (List Bool) := (spec_l1Knot.f k aa ab a1).bind fun br => (if br = true then (if 0 ≤ aa then (if (aa : Int).toNat ≤ 281474976710656 then ((some (List.replicate (aa : Int).toNat false : List Bool)).bind fun aw => (if 0 ≤ a1 then (if a1 < (aw.length : Int) then (spec_WayReach.l0 k (aw.set (a1 : Int).toNat true) (([a1] : List Int)) aa ab) else (none)) else (none))) else (none)) else (none)) else (some (([] : List Bool))))
theorem spec_WayReach.mono_l : ∀ k, (∀ y0 y1 y2 y3, LeO (spec_WayReach.l0 k y0 y1 y2 y3) (spec_WayReach.l0 (k + 1) y0 y1 y2 y3)) ∧ (∀ y0 y1 y2 y3 y4 y5, LeO (spec_WayReach.l1 k y0 y1 y2 y3 y4 y5) (spec_WayReach.l1 (k + 1) y0 y1 y2 y3 y4 y5))
 | 0 => ⟨fun _ _ _ _ r h => by simp [spec_WayReach.l0] at h, fun _ _ _ _ _ _ r h => by simp [spec_WayReach.l1] at h⟩
 | k + 1 => by
  obtain ⟨aJ, b3⟩ := spec_WayReach.mono_l k; refine ⟨?_, ?_⟩ <;> intros
  all_goals first | unfold spec_WayReach.l0 | unfold spec_WayReach.l1
  repeat' first | (with_reducible first | exact aJ _ _ _ _ | exact b3 _ _ _ _ _ _ | exact spec_l1Knot.mono _ _ _ _ | exact spec_l2Next.mono _ _ _ _ | exact LeO.refl _ | exact LeO.none _ | refine LeO.ite ?_ ?_ | refine LeO.bind ?_ (fun _ => ?_)) | exact aJ _ _ _ _ | exact b3 _ _ _ _ _ _ | exact spec_l1Knot.mono _ _ _ _ | exact spec_l2Next.mono _ _ _ _ | exact LeO.none _ | refine LeO.ite ?_ ?_ | refine LeO.bind ?_ (fun _ => ?_)
theorem spec_WayReach.mono : ∀ a0 a1 a2 k, LeO (spec_WayReach.f k a0 a1 a2) (spec_WayReach.f (k + 1) a0 a1 a2) := by
 intro a0 a1 a2 k; obtain ⟨aJ, b3⟩ := spec_WayReach.mono_l k; unfold spec_WayReach.f
 repeat' first | (with_reducible first | exact aJ _ _ _ _ | exact b3 _ _ _ _ _ _ | exact spec_l1Knot.mono _ _ _ _ | exact spec_l2Next.mono _ _ _ _ | exact LeO.refl _ | exact LeO.none _ | refine LeO.ite ?_ ?_ | refine LeO.bind ?_ (fun _ => ?_)) | exact aJ _ _ _ _ | exact b3 _ _ _ _ _ _ | exact spec_l1Knot.mono _ _ _ _ | exact spec_l2Next.mono _ _ _ _ | exact LeO.none _ | refine LeO.ite ?_ ?_ | refine LeO.bind ?_ (fun _ => ?_)
set_option maxHeartbeats 8000000 in
set_option maxRecDepth 100000 in
theorem spec_WayReach.calls (k : Nat) (aa : Int) (ak : Option Addr) (al : Nat) (ab : List (S63)) (a1 : Int) (r : List Bool) (w : World) (aR : Kd.C k63 w ak ab.length ab) (aT : ab.length ≤ al) (h : spec_WayReach.f k aa ab a1 = some r) :
  Calls Try.prog 39 #[.agg #[.int .i64 aa, .slice ak ab.length al], .int .i64 a1] w fun e w' => ∃ b1 : Value, e = .returned (b1) ∧ Kd.R Kd.bool 4 w' w.heap.size (fun _ => True) b1 r ∧ Below w.heap.size w w' := by
 have cQ := Try.underlying29; have aA := G.m aR; have aC := G.m aT; clear aR aT; have HB := G.m (Below.refl w.heap.size w); have H : ((spec_l1Knot.f k aa ab a1).bind fun br => (if br = true then (if 0 ≤ aa then (if (aa : Int).toNat ≤ 281474976710656 then ((some (List.replicate (aa : Int).toNat false : List Bool)).bind fun aw => (if 0 ≤ a1 then (if a1 < (aw.length : Int) then (spec_WayReach.l0 k (aw.set (a1 : Int).toNat true) (([a1] : List Int)) aa ab) else (none)) else (none))) else (none)) else (none)) else (some (([] : List Bool))))) = some r := h; clear h; obtain ⟨br, A3, H⟩ := G.bi H; replace H : (if br = true then (if 0 ≤ aa then (if (aa : Int).toNat ≤ 281474976710656 then ((some (List.replicate (aa : Int).toNat false : List Bool)).bind fun aw => (if 0 ≤ a1 then (if a1 < (aw.length : Int) then (spec_WayReach.l0 k (aw.set (a1 : Int).toNat true) (([a1] : List Int)) aa ab) else (none)) else (none))) else (none)) else (none)) else (some (([] : List Bool)))) = some r := H
 by_cases c4 : br = true
 ·subst c4; have H1 : (if 0 ≤ aa then (if (aa : Int).toNat ≤ 281474976710656 then ((some (List.replicate (aa : Int).toNat false : List Bool)).bind fun aw => (if 0 ≤ a1 then (if a1 < (aw.length : Int) then (spec_WayReach.l0 k (aw.set (a1 : Int).toNat true) (([a1] : List Int)) aa ab) else (none)) else (none))) else (none)) else (none)) = some r := by rw [if_pos rfl] at H; exact H
  clear H; have H := H1; clear H1
  by_cases c5 : 0 ≤ aa
  ·rw [if_pos c5] at H; have d_ := eq_true c5; have ea : decide (0 ≤ aa) = true := decide_eq_true c5; clear c5
   by_cases c6 : (aa : Int).toNat ≤ 281474976710656
   ·rw [if_pos c6] at H; have b5 := eq_true c6; have eb : decide ((aa : Int).toNat ≤ 281474976710656) = true := decide_eq_true c6; clear c6; obtain ⟨aw, bh⟩ : ∃ y_ : List Bool, y_ = (List.replicate (aa : Int).toNat false) := ⟨_, rfl⟩; replace H : (if 0 ≤ a1 then (if a1 < (aw.length : Int) then (spec_WayReach.l0 k (aw.set (a1 : Int).toNat true) (([a1] : List Int)) aa ab) else (none)) else (none)) = some r := by first | (rw [bh]; with_reducible exact H) | (have am := (Option.bind_some _ _).symm.trans H; rw [bh]; with_reducible exact am) | (have am := (Option.bind_some _ _).symm.trans H; with_reducible exact am) | with_reducible exact H | (rw [bh]; exact H) | exact H
    have cl := G.m bh; clear bh
    by_cases c7 : 0 ≤ a1
    ·rw [if_pos c7] at H; have ec : decide (0 ≤ a1) = true := decide_eq_true c7; clear c7
     by_cases c8 : a1 < (aw.length : Int)
     ·rw [if_pos c8] at H; have ed : decide (a1 < (aw.length : Int)) = true := decide_eq_true c8; clear c8; obtain ⟨bQ, bj⟩ : ∃ y_ : List Bool, y_ = (aw.set (a1 : Int).toNat true) := ⟨_, rfl⟩; replace H : (spec_WayReach.l0 k bQ (([a1] : List Int)) aa ab) = some r := by first | (rw [bj]; with_reducible exact H) | (have am := (Option.bind_some _ _).symm.trans H; rw [bj]; with_reducible exact am) | (have am := (Option.bind_some _ _).symm.trans H; with_reducible exact am) | with_reducible exact H | (rw [bj]; exact H) | exact H
      have du := G.m bj; clear bj; obtain ⟨cW, bk⟩ : ∃ y_ : List Int, y_ = (([a1] : List Int)) := ⟨_, rfl⟩; replace H : (spec_WayReach.l0 k bQ cW aa ab) = some r := by first | (rw [bk]; with_reducible exact H) | (have am := (Option.bind_some _ _).symm.trans H; rw [bk]; with_reducible exact am) | (have am := (Option.bind_some _ _).symm.trans H; with_reducible exact am) | with_reducible exact H | (rw [bk]; exact H) | exact H
      have cm := G.m bk; clear bk; have H' := G.m H; clear H
      go_enter Try.func39, Try.ntmps39
      go_wp2_with (first | ((with_reducible refine G.h 2 rfl ?_); refine G.be 2 #[.int .i64 aa, .slice ak ab.length al] 29 ?_; intro aM hg dX hbox hb; have n0 := G.bs HB hb; have n1 := G.m (hbox); have n2 := G.m (caav : w.heap.size ≤ aM); have n3 := G.m (caav : w.heap.size ≤ aM); clear HB; revert n0 n1 n2 n3; intro HB ae dv dw; clear hb hbox hg; have ⟨cL, cM, cN, cO⟩ := G.d2 (w := dX) ae) | ((with_reducible refine G.f 38 rfl ?_); refine G.gL 11 Try.func38 #[.agg #[.int .i64 aa, .slice ak ab.length al], .int .i64 a1] ?_; (with_reducible refine (spec_l1Knot.calls k aa _ _ ab a1 true _ ?side1 ?side2 A3.out).mono ?_); (case side1 => exact G.cC (Kd.C_below aA.out HB.out)); (case side2 => exact aC.out); rintro e dW ⟨rfl, hb⟩; refine ⟨_, rfl, ?_⟩; have n0 := G.bb ae hb; have n1 := G.bs HB hb; clear ae HB; revert n0 n1; intro ae HB; (try clear hb); have ⟨bE, bF, bG, bH⟩ := G.d2 (w := dW) ae) | ((with_reducible refine G.h 16 rfl ?_); refine Kd.R_make Kd.bool _ 4 rfl (N := 16) rfl 52 _ _ rfl aa rfl rfl Try.underlying52 (.bool false) 1 info4 rfl (by decide) (by omega) false (ok := fun _ => True) (okp := fun _ => True) rfl (fun _ hk => hk) trivial (of_decide_eq_true (G.asm)) (Nat.le_trans (Nat.mul_le_mul_right _ (of_decide_eq_true (G.asm) : aa.toNat ≤ 281474976710656)) (by omega)) (Below.refl _ _) (Nat.le_refl _) ?_; intro fB cU bz hb hg_ hnew_; clear hg_ hnew_; (first | rw [← cl.out] at bz | (simp only [Int.reduceToNat] at bz; rw [← cl.out] at bz)); have n0 := G.m (Kd.R_lower bz (below_size (G.cB HB.out))); have n1 := G.bb ae hb; have n2 := G.bs HB hb; clear ae HB; revert n0 n1 n2; intro aH ae HB; clear hb bz; have p9 : 0 ≤ (a1 : Int) := of_decide_eq_true (G.asm); have q9 : (a1 : Int) < ((aw.length : Int) : Int) := of_decide_eq_true (G.asm); obtain ⟨aW, bI, dY, dZ, fe, fZ, d7⟩ := Kd.R_form aH.out (by omega); (first | cases dY | (injection dY with ea_ en_ ec_; (first | subst ea_ | (injection ea_ with ea_; subst ea_)); subst ec_; clear en_)); have d8 := G.m dZ; have f2 := G.m d7; clear dZ fe d7; obtain ⟨dx, fq⟩ := Kd.R_celln false aH.out (a1 : Int) p9 q9; replace p9 := eq_true p9; replace q9 := eq_true q9; obtain ⟨ft, fu⟩ := Kd.R_celln false aH.out (a1 : Int) (of_decide_eq_true (G.asm)) (of_decide_eq_true (G.asm)); have b6 := Kd.R_putg aH.out (a1 : Int) true) | ((with_reducible refine gate_store (t := 4) (p := 19) rfl ?_); refine store_event (t := 4) (p := 19) (v := ?vo_w17) (w1 := (cU.setCell ⟨aW, (a1 : Int).toNat, none⟩ (.bool true))) ?hg ?ho ?hn ?hr ?_; (case ho => rfl); (case hg => rfl); (case hn => rfl); (case hr => first | (go_simp; done) | (go_simp; rfl)); intro cX hw; have hg : cU.grownBy cX (some aW) := (by rw [hw]; exact b6.2); have hp_ : Kd.R Kd.bool 4 cX w.heap.size (fun _ => True) (.slice (some ⟨aW, 0, none⟩) aw.length bI) bQ := (by rw [hw, du.out]; exact b6.1); clear b6; have n0 := G.bg ae hg (Kd.R_ne aH.out ae.out (by decide)); have n1 := G.m (hp_); have n2 := G.m ((by rw [hw]; exact below_set (HB.out) d8.out : Below w.heap.size w cX)); clear ae aH HB; revert n0 n1 n2; intro ae aH HB; clear hg hw hp_) | ((with_reducible refine G.h 21 rfl ?_); refine Kd.R_lit (Kd.int .i64) _ 3 ?hg (N := 21) ?hd (xs := ([a1] : List Int)) (inner := [.int .i64 a1]) (ok := fun _ => True) (okp := fun _ => True) ?hr ?hp (fun _ hk => hk) trivial (Below.refl _ _) (Nat.le_refl _) (by simp) ?_; (case hd => rfl); (case hg => rfl); (case hr => first | (go_simp; done) | (go_simp; rfl)); (case hp => exact (Reps.one (show Kd.M (Kd.int .i64) _ _ _ a1 [.int .i64 a1] from rfl) (Reps.none _ _))); intro fC f3 bA hb hg_ hnew_; clear hg_ hnew_; (first | rw [← cm.out] at bA | (simp only [Int.reduceToNat] at bA; rw [← cm.out] at bA)); have n0 := G.rb aH hb; have n1 := G.m (Kd.R_lower bA (below_size (G.cB HB.out))); have n2 := G.bb ae hb; have n3 := G.bs HB hb; clear aH ae HB; revert n0 n1 n2 n3; intro aH dy ae HB; clear hb bA))
      go_loopg [6] k (fun kq v6 w' => ∃ (au : List Bool) (ac : List Int), Aside0 (spec_WayReach.l0 kq au ac aa ab = some r) ∧ Aside0 (kq ≤ k) ∧ Aside0 (Kd.R Kd.bool 4 w' w.heap.size (fun _ => True) (.slice (some ⟨aW, 0, none⟩) aw.length bI) au) ∧ Aside0 (Kd.Q (Kd.int .i64) 3 w' w.heap.size (fun _ => True) v6 ac) ∧ Aside0 (w'.heap[aM]? = some (.cells #[.int .i64 aa, (.slice ak ab.length al)] 29 (0, 0))) ∧ Aside0 (Below w.heap.size w w'))
      case atStart => exact ⟨(bQ), (cW), H', ⟨Nat.le_refl _⟩, ⟨G.cR aH.out⟩, ⟨Kd.Q_of_R (G.cR dy.out)⟩, ⟨G.cb ae.out⟩, ⟨G.cB HB.out⟩⟩
      case round =>
       clear H'; (try clear c4 d_ ea b5 eb ec ed p9 q9 cL cM bE bF cN cO bG bH dx); obtain ⟨au, ac, HA, aK, af, ap, ae, HB⟩ := hrel; have av := (Kd.R_reads' af.out).1; rw [av] at af; (try simp only [av]); (try simp only [av] at ae); (try simp only [av] at ap); cases gk with
       | zero => exact absurd HA.out (by simp [spec_WayReach.l0])
       | succ k1 =>
        have H := HA.out; clear HA; simp only [spec_WayReach.l0] at H
        by_cases bJ : (ac.length : Int) > 0
        ·rw [if_pos bJ] at H; have cn : decide (0 < (ac.length : Int)) = true := decide_eq_true bJ; have co : decide (0 < ac.length) = true := decide_eq_true (by omega); clear bJ
         by_cases cp : 0 < (ac.length : Int)
         ·rw [if_pos cp] at H; have dz : decide (0 < (ac.length : Int)) = true := decide_eq_true cp; have dA : decide (0 < ac.length) = true := decide_eq_true (by omega); clear cp; obtain ⟨ah, ff, H⟩ := G.bi H; replace H : (if 1 ≤ (ac.length : Int) then (spec_WayReach.l1 k1 au (ac.drop (1 : Int).toNat) ah 0 aa ab) else (none)) = some r := H
          by_cases b4 : 1 ≤ (ac.length : Int)
          ·rw [if_pos b4] at H; have dB := eq_true b4; have dC : decide (1 ≤ (ac.length : Int)) = true := decide_eq_true b4; clear b4; obtain ⟨a6, bl⟩ : ∃ y_ : List Int, y_ = (ac.drop (1 : Int).toNat) := ⟨_, rfl⟩; replace H : (spec_WayReach.l1 k1 au a6 ah 0 aa ab) = some r := by first | (rw [bl]; with_reducible exact H) | (have am := (Option.bind_some _ _).symm.trans H; rw [bl]; with_reducible exact am) | (have am := (Option.bind_some _ _).symm.trans H; with_reducible exact am) | with_reducible exact H | (rw [bl]; exact H) | exact H
           have cq := G.m bl; clear bl; have H' := G.m H; clear H; obtain ⟨ee, bB, b7, _⟩ := Kd.Q_slice ap.out; subst b7; try go_wp2
           have n0 := G.m (Kd.R_drew af.out); have n1 := G.m (Kd.Q_drew ap.out); have n2 := G.m (blk_drew ae.out); have n3 := G.m (below_drew1 HB.out); clear af ap ae HB; revert n0 n1 n2 n3; intro af ap ae HB; have bR : 0 ≤ (0 : Int) := (by omega); have bS : 0 < (ac.length : Int) := of_decide_eq_true (G.asm); obtain ⟨a3, ef, aU⟩ := Kd.at_int (Kd.Q_reads' ap.out).2.2 0 bR bS; cases ef; have fv : (0 < ac.length) = True := eq_true (by omega); (try rw [show ((0 : Int)).toNat = 0 from rfl] at aU); (try rw [Addr.add_zero'] at aU); replace bR := eq_true bR; replace bS := eq_true bS; refine start_ (n := 6) (S := fun w' => w'.cell? ⟨aM, 0, none⟩ = some (.int .i64 aa) ∧ w'.cell? ⟨aM, 1, none⟩ = some (.slice ak ab.length al) ∧ w'.cell? a3 = some (.int .i64 (rd ac 0))) (ds := []) (G.fl 6 0) (by kernel_rfl) rfl (by kernel_rfl) ⟨G.z ae 0, G.z ae 1, aU⟩ (fun hHeld => ?_); generalize wr.drew = f4 at af ap ae HB aU hHeld ⊢; refine G.pu 1 26 2 ?_; refine G.pu 2 27 6 ?_; refine G.ta3 0 25 7 ?_; refine G.ta3 3 28 15 ?_; refine one_ (i := 4) (N := some 29) (G.fl 6 31) rfl rfl (by kernel_rfl) (by decide) (fun K hK => ?_); refine G.gs Try.func40 #[.agg #[.int .i64 aa, .slice ak ab.length al], .int .i64 (rd ac 0)] ?_; with_reducible refine (spec_l2Next.calls k1 aa _ _ ab (rd ac 0) ah _ ?side1 ?side2 ff.out).mono ?_
           (case side1 => exact G.cC (Kd.C_below aA.out HB.out)); (case side2 => exact aC.out); rintro e fg ⟨bT, rfl, aI, hb⟩; have eg := (hb.cell (World.block_lt_of_cell? _ _ (hHeld.2.2))).trans (hHeld.2.2); refine ⟨_, rfl, ?_⟩; have n0 := G.rb af hb; have n1 := G.m (Kd.Q_elder' (caaw) (Kd.R_base aI) hb); have n2 := G.m (Kd.R_lower (Kd.R_new' aI (Kd.Q_lt (caaw))) (below_size (G.cB HB.out))); have n3 := G.bb ae hb; have n4 := G.bs HB hb; clear af ap ae HB; revert n0 n1 n2 n3 n4; intro af ap bw ae HB; (try clear hb f5 hk hi aI); refine hK.out _ _ ⟨G.z ae 0, G.z ae 1, eg⟩ (fun hHeld => ?_); clear hK K; refine G.no 29 ?_; refine G.pu 5 7 63 ?_; refine done_ (by kernel_rfl) ?_; have n_ := G.m (Kd.Q_mono (ok' := (fun k_ => some k_ ≠ (bT : Value).ownBlock)) ap.out (fun k_ hk => hk.2)); clear ap; have ap := n_; clear n_; have cr : (1 : Int) ≤ ((ac.length : Int) : Int) := of_decide_eq_true (G.asm); obtain ⟨fD, ct, _, cu, _⟩ := info_parts info3; have cY := cut_from (P := Try.prog) 33 3 .i64 Try.underlying33 ct 1 cu (some a3) ac.length bB 1 (by omega) cr; have bC := Kd.Q_drop (k := (1 : Int).toNat) ap.out (by omega); obtain ⟨cZ, bU⟩ : ∃ A1, A1 = (if bB = (1 : Int).toNat then (some a3) else ((some a3) : Option Addr).map (·.add ((1 : Int).toNat * 1))) := ⟨_, rfl⟩; obtain ⟨cv, b8⟩ : ∃ c1, c1 = bB - (1 : Int).toNat := ⟨_, rfl⟩; have b9 : a6.length = ac.length - (1 : Int).toNat := (by rw [cq.out, List.length_drop]); rw [← cq.out] at bC; rw [← b9, ← bU, ← b8] at cY; replace bC : Kd.Q (Kd.int .i64) 3 fg w.heap.size (fun k_ => some k_ ≠ (bT : Value).ownBlock) (.slice cZ a6.length cv) a6 := (by rw [bU, b8, b9]; exact bC); have eh : Aside0 ((Value.slice cZ a6.length cv).ownBlock = (.slice (some a3) ac.length bB : Value).ownBlock) := ⟨by rw [bU]; split <;> (cases ((some a3) : Option Addr) <;> rfl)⟩; clear b9 ct cu ap bU b8; have dD := G.m bC; clear bC; replace cr := eq_true cr; have n_ := G.m (Kd.R_mono (ok' := fun k_ => (True ∧ some k_ ≠ (.slice cZ a6.length cv : Value).ownBlock)) bw.out (fun k_ hk => ⟨trivial, (by rw [eh.out]; exact hk.2)⟩)); clear bw; have bw := n_; clear n_; try go_wp2
           go_loopg [6, 8] k1 (fun kq v6 v8 w' => ∃ (ay : List Bool) (aG : List Int) (ag : Int), v8 = .int .i64 ag ∧ Aside0 (spec_WayReach.l1 kq ay aG ah ag aa ab = some r) ∧ Aside0 (kq ≤ k1) ∧ Aside0 (Kd.R Kd.bool 4 w' w.heap.size (fun _ => True) (.slice (some ⟨aW, 0, none⟩) au.length bI) ay) ∧ Aside0 (Kd.Q (Kd.int .i64) 3 w' w.heap.size (fun k_ => some k_ ≠ (bT : Value).ownBlock) v6 aG) ∧ Aside0 (Kd.R (Kd.int .i64) 3 w' w.heap.size (fun k_ => some k_ ≠ (v6 : Value).ownBlock) bT ah) ∧ Aside0 (w'.heap[aM]? = some (.cells #[.int .i64 aa, (.slice ak ab.length al)] 29 (0, 0))) ∧ Aside0 (Below w.heap.size w w'))
           case atStart => exact ⟨(au), (a6), (0), (caau), H', ⟨Nat.le_refl _⟩, ⟨by (try simp only [av]); (with_reducible repeat (first | apply Kd.R_alloc | apply Kd.R_drewN | apply Kd.R_drew)); exact af.out⟩, ⟨by (try simp only [av]); (with_reducible repeat (first | apply Kd.Q_alloc | apply Kd.Q_drewN | apply Kd.Q_drew)); exact dD.out⟩, ⟨by (try simp only [av]); (with_reducible repeat (first | apply Kd.R_alloc | apply Kd.R_drewN | apply Kd.R_drew)); exact Kd.R_mono bw.out (fun _ hk => hk.2)⟩, ⟨by (try simp only [av]); (with_reducible repeat (first | refine blk_drewN ?_ _ | refine blk_drew ?_ | refine blk_alloc ?_ _)); exact ae.out⟩, ⟨G.cB HB.out⟩⟩
           case round =>
            clear H'; (try clear c1 cn co dz dA dB dC cv cr aU bR bS); obtain ⟨ay, aG, ag, rfl, HA, bK, af, ap, aD, ae, HB⟩ := hrel; have ax := (Kd.R_reads' af.out).1; rw [ax] at af; (try simp only [ax]); (try simp only [ax] at ae); (try simp only [ax] at ap); (try simp only [ax] at aD); cases gk with
            | zero => exact absurd HA.out (by simp [spec_WayReach.l1])
            | succ k2 =>
             have H := HA.out; clear HA; simp only [spec_WayReach.l1] at H
             by_cases bL : ag < (ah.length : Int)
             ·rw [if_pos bL] at H; have dE : decide (ag < (ah.length : Int)) = true := decide_eq_true bL; clear bL
              by_cases aX : 0 ≤ ag
              ·rw [if_pos aX] at H; have cw : decide (0 ≤ ag) = true := decide_eq_true aX; clear aX
               by_cases cx : 0 ≤ (rd ah ag)
               ·rw [if_pos cx] at H; have fw : decide (0 ≤ (rd ah ag)) = true := decide_eq_true cx; clear cx
                by_cases aY : (rd ah ag) < (ay.length : Int)
                ·rw [if_pos aY] at H; have cy : decide ((rd ah ag) < (ay.length : Int)) = true := decide_eq_true aY; clear aY; obtain ⟨c_, bV⟩ : ∃ b_ : Bool, b_ = (rdOf false ay (rd ah ag)) := ⟨_, rfl⟩; replace H : (if (c_ = true) then (spec_WayReach.l1 k2 ay aG ah (wrap64 (ag + 1)) aa ab) else (if aG.length < 17592186044416 then (spec_WayReach.l1 k2 (ay.set ((rd ah ag) : Int).toNat true) (aG ++ [rd ah ag]) ah (wrap64 (ag + 1)) aa ab) else (none))) = some r := by rw [← bV] at H; exact H
                 have cz := G.m bV; clear bV
                 by_cases cA : (c_ = true)
                 ·subst cA; have H1 : (spec_WayReach.l1 k2 ay aG ah (wrap64 (ag + 1)) aa ab) = some r := by rw [if_pos rfl] at H; exact H
                  clear H; have H := H1; clear H1; have H' := G.m H; clear H; obtain ⟨fE, fF, ei⟩ := Kd.R_slice aD.out; subst ei; have a7 : 0 ≤ (ag : Int) := of_decide_eq_true (G.asm); have a8 : ag < (ah.length : Int) := of_decide_eq_true (G.asm); obtain ⟨bx, ca, cP⟩ := Kd.at_int (Kd.R_reads' aD.out).2.2 ag a7 a8; cases ca; replace a7 := eq_true a7; replace a8 := eq_true a8; have a9 : 0 ≤ ((rd ah ag) : Int) := of_decide_eq_true (G.asm); have a_ : (rd ah ag) < (ay.length : Int) := of_decide_eq_true (G.asm); obtain ⟨bW, cd, aE⟩ := Kd.at_bool (Kd.R_reads' af.out).2.2 (rd ah ag) a9 a_; (try rw [← cz.out] at aE); obtain rfl : (⟨aW, 0, none⟩ : Addr) = bW := (by injection cd); (first | simp only [add_plain] at aE | simp only [add_at] at aE | simp only [Addr.add, Nat.zero_add] at aE | skip); replace a9 := eq_true a9; replace a_ := eq_true a_
                  go_wp2; (try simp only [← ax])
                  go_roundg k2
                  case measure => have := aK.out; have := bK.out; omega
                  case rel => exact ⟨(ay), (aG), (wrap64 (ag + 1)), (caau), H', ⟨by have := aK.out; have := bK.out; omega⟩, ⟨caaz⟩, ⟨by (try simp only [av]); (try simp only [ax]); (with_reducible repeat (first | apply Kd.Q_alloc | apply Kd.Q_drewN | apply Kd.Q_drew)); exact ap.out⟩, ⟨by (try simp only [av]); (try simp only [ax]); (with_reducible repeat (first | apply Kd.R_alloc | apply Kd.R_drewN | apply Kd.R_drew)); exact aD.out⟩, ⟨caay⟩, ⟨G.cB HB.out⟩⟩
                 ·replace cA := Bool.eq_false_iff.mpr cA; subst cA; have H1 : (if aG.length < 17592186044416 then (spec_WayReach.l1 k2 (ay.set ((rd ah ag) : Int).toNat true) (aG ++ [rd ah ag]) ah (wrap64 (ag + 1)) aa ab) else (none)) = some r := by rw [if_neg (show ¬ (false = true) by decide)] at H; exact H
                  clear H; have H := H1; clear H1; obtain ⟨bX, bm⟩ : ∃ y_ : List Bool, y_ = (ay.set ((rd ah ag) : Int).toNat true) := ⟨_, rfl⟩; replace H : (if aG.length < 17592186044416 then (spec_WayReach.l1 k2 bX (aG ++ [rd ah ag]) ah (wrap64 (ag + 1)) aa ab) else (none)) = some r := by first | (rw [bm]; with_reducible exact H) | (have am := (Option.bind_some _ _).symm.trans H; rw [bm]; with_reducible exact am) | (have am := (Option.bind_some _ _).symm.trans H; with_reducible exact am) | with_reducible exact H | (rw [bm]; exact H) | exact H
                  have dF := G.m bm; clear bm
                  by_cases cD : aG.length < 17592186044416
                  ·rw [if_pos cD] at H; have dG := G.m cD; clear cD; obtain ⟨da, bn⟩ : ∃ y_ : List Int, y_ = (aG ++ [rd ah ag]) := ⟨_, rfl⟩; replace H : (spec_WayReach.l1 k2 bX da ah (wrap64 (ag + 1)) aa ab) = some r := by first | (rw [bn]; with_reducible exact H) | (have am := (Option.bind_some _ _).symm.trans H; rw [bn]; with_reducible exact am) | (have am := (Option.bind_some _ _).symm.trans H; with_reducible exact am) | with_reducible exact H | (rw [bn]; exact H) | exact H
                   have dH := G.m bn; clear bn; have H' := G.m H; clear H; obtain ⟨fG, ej, ek⟩ := Kd.R_slice aD.out; subst ek; have a7 : 0 ≤ (ag : Int) := of_decide_eq_true (G.asm); have a8 : ag < (ah.length : Int) := of_decide_eq_true (G.asm); obtain ⟨bx, ca, cP⟩ := Kd.at_int (Kd.R_reads' aD.out).2.2 ag a7 a8; cases ca; replace a7 := eq_true a7; replace a8 := eq_true a8; have a9 : 0 ≤ ((rd ah ag) : Int) := of_decide_eq_true (G.asm); have a_ : (rd ah ag) < (ay.length : Int) := of_decide_eq_true (G.asm); obtain ⟨bW, cd, aE⟩ := Kd.at_bool (Kd.R_reads' af.out).2.2 (rd ah ag) a9 a_; (try rw [← cz.out] at aE); obtain rfl : (⟨aW, 0, none⟩ : Addr) = bW := (by injection cd); (first | simp only [add_plain] at aE | simp only [add_at] at aE | simp only [Addr.add, Nat.zero_add] at aE | skip); replace a9 := eq_true a9; replace a_ := eq_true a_; have ce : 0 ≤ (ag : Int) := of_decide_eq_true (G.asm); have cf : ag < (ah.length : Int) := of_decide_eq_true (G.asm); obtain ⟨dI, el, eE⟩ := Kd.at_int (Kd.R_reads' aD.out).2.2 ag ce cf; obtain rfl : bx = dI := (by injection el); replace ce := eq_true ce; replace cf := eq_true cf; have db : 0 ≤ ((rd ah ag) : Int) := of_decide_eq_true (G.asm); have dc : ((rd ah ag) : Int) < ((ay.length : Int) : Int) := of_decide_eq_true (G.asm); obtain ⟨fh, fi⟩ := Kd.R_celln false af.out ((rd ah ag) : Int) db dc; replace db := eq_true db; replace dc := eq_true dc; have cg := Kd.R_putg af.out ((rd ah ag) : Int) true
                   go_wp2_with (first | ((with_reducible refine gate_store (t := 4) (p := 51) rfl ?_); refine store_event (t := 4) (p := 51) (v := ?vo_w39) (w1 := (wr.setCell ⟨aW, ((rd ah ag) : Int).toNat, none⟩ (.bool true))) ?hg ?ho ?hn ?hr ?_; (case ho => rfl); (case hg => rfl); (case hn => rfl); (case hr => first | (go_simp; done) | (go_simp; rfl)); intro cE hw; have hg : wr.grownBy cE (some aW) := (by rw [hw]; exact cg.2); have hp_ : Kd.R Kd.bool 4 cE w.heap.size (fun _ => True) (.slice (some ⟨aW, 0, none⟩) ay.length bI) bX := (by rw [hw, dF.out]; exact cg.1); clear cg; have n0 := G.m (hp_); have n1 := G.m (Kd.Q_over' (v := (.slice (some ⟨aW, 0, none⟩) ay.length bI)) (caaw) (Kd.R_typed af.out) (by decide) hg); have n2 := G.m (Kd.R_over' (v := (.slice (some ⟨aW, 0, none⟩) ay.length bI)) (G.cR aD.out) (Kd.R_typed af.out) (by decide) hg); have n3 := G.bg ae hg (Kd.R_ne af.out ae.out (by decide)); have n4 := G.m ((by rw [hw]; exact below_set (HB.out) d8.out : Below w.heap.size w cE)); clear af ap aD ae HB; revert n0 n1 n2 n3 n4; intro af ap aD ae HB; clear hg hw hp_; have ch : 0 ≤ (ag : Int) := of_decide_eq_true (G.asm); have ci : ag < (ah.length : Int) := of_decide_eq_true (G.asm); obtain ⟨dJ, em, eF⟩ := Kd.at_int (Kd.R_reads' aD.out).2.2 ag ch ci; obtain rfl : bx = dJ := (by injection em); replace ch := eq_true ch; replace ci := eq_true ci) | ((with_reducible refine gate_builtin (b := .append) (xs := #[.tmp 52, .tmp 57]) rfl ?_); at_builtin; refine Kd.Q_append (Kd.int .i64) (w0 := w) w.heap.size rfl (.tmp 52) (.tmp 57) 33 3 (.int .i64 0) 8 rfl Try.underlying33 info3 rfl (by decide) (by omega) u6 aG (rd ah ag) [.int .i64 (rd ah ag)] (fun k_ => some k_ ≠ (.slice (some bx) ah.length ej : Value).ownBlock) (fun _ => False) rfl rfl ?aP (fun _ hk => hk.elim) ?aF ?aO ?aB ?aS ?aL ?_; (case aP => exact rfl); (case aB => exact (G.cB HB.out)); (case aF => exact (fun k_ hk => Kd.fresh' (Kd.R_lt (G.cR aD.out)) k_ hk)); (case aO => exact (caaw)); (case aS => exact (below_size (G.cB HB.out))); (case aL => have := dG.out; omega); intro fH f6 ho hb hg hat; rw [← dH.out] at ho; have n0 := G.m (Kd.R_over' (G.cR af.out) (Kd.Q_typed (caaw)) (by decide) hg); have n1 := G.m (Kd.R_after (ok := (fun _ => True)) (by (with_reducible repeat (first | apply Kd.R_alloc | apply Kd.R_drewN | apply Kd.R_drew)); exact Kd.R_mono aD.out (fun _ hk => ⟨trivial, hk⟩)) hg hat); have n2 := G.bg ae hg (Kd.Q_ne ap.out ae.out (by decide)); have n3 := G.m (hb); have n4 := G.m (ho); clear af aD ae HB ap; revert n0 n1 n2 n3 n4; intro af aD ae HB dK; clear ho hb hg hat))
                   (try simp only [← ax])
                   go_roundg k2
                   case measure => have := aK.out; have := bK.out; omega
                   case rel => exact ⟨(bX), (da), (wrap64 (ag + 1)), (caau), H', ⟨by have := aK.out; have := bK.out; omega⟩, ⟨caaz⟩, ⟨by (try simp only [av]); (try simp only [ax]); (with_reducible repeat (first | apply Kd.Q_alloc | apply Kd.Q_drewN | apply Kd.Q_drew)); exact dK.out⟩, ⟨by (try simp only [av]); (try simp only [ax]); (with_reducible repeat (first | apply Kd.R_alloc | apply Kd.R_drewN | apply Kd.R_drew)); exact Kd.R_mono aD.out (fun _ hk => hk.2)⟩, ⟨caay⟩, ⟨G.cB HB.out⟩⟩
                  ·rw [if_neg cD] at H; exact absurd H (by simp)
                ·rw [if_neg aY] at H; exact absurd H (by simp)
               ·rw [if_neg cx] at H; exact absurd H (by simp)
              ·rw [if_neg aX] at H; exact absurd H (by simp)
             ·rw [if_neg bL] at H; have dE : decide (ag < (ah.length : Int)) = false := decide_eq_false bL; clear bL; have H' := G.m H; clear H; obtain ⟨fI, fJ, en⟩ := Kd.R_slice aD.out; subst en
              go_wp2; (try simp only [← av, ← ax])
              go_roundg k2
              case measure => have := aK.out; have := bK.out; omega
              case rel => exact ⟨(ay), (aG), H', ⟨by have := aK.out; have := bK.out; omega⟩, ⟨caaz⟩, ⟨by (try simp only [av]); (try simp only [ax]); (with_reducible repeat (first | apply Kd.Q_alloc | apply Kd.Q_drewN | apply Kd.Q_drew)); exact Kd.Q_mono ap.out (fun _ hk => trivial)⟩, ⟨caay⟩, ⟨G.cB HB.out⟩⟩
          ·rw [if_neg b4] at H; exact absurd H (by simp)
         ·rw [if_neg cp] at H; exact absurd H (by simp)
        ·rw [if_neg bJ] at H; have cn : decide (0 < (ac.length : Int)) = false := decide_eq_false bJ; have co : decide (0 < ac.length) = false := decide_eq_false (by omega); clear bJ; obtain rfl := Option.some.inj H; obtain ⟨fK, fL, eo, _⟩ := Kd.Q_slice ap.out; subst eo
         go_wp2
         go_ret
         exact ⟨_, by first | rfl | (simp [errW_none, errW_some] <;> rfl) | (simp [*, errW_none, errW_some] <;> rfl), G.cR af.out, G.cB HB.out⟩
     ·rw [if_neg c8] at H; exact absurd H (by simp)
    ·rw [if_neg c7] at H; exact absurd H (by simp)
   ·rw [if_neg c6] at H; exact absurd H (by simp)
  ·rw [if_neg c5] at H; exact absurd H (by simp)
 ·replace c4 := Bool.eq_false_iff.mpr c4; subst c4; have H1 : (some (([] : List Bool))) = some r := by rw [if_neg (show ¬ (false = true) by decide)] at H; exact H
  clear H; have H := H1; clear H1; obtain ⟨ep, bo⟩ : ∃ y_ : List Bool, y_ = (([] : List Bool)) := ⟨_, rfl⟩; replace H : (some ep) = some r := by first | (rw [bo]; with_reducible exact H) | (have am := (Option.bind_some _ _).symm.trans H; rw [bo]; with_reducible exact am) | (have am := (Option.bind_some _ _).symm.trans H; with_reducible exact am) | with_reducible exact H | (rw [bo]; exact H) | exact H
  have cF := G.m bo; clear bo; obtain rfl := Option.some.inj H
  go_enter Try.func39, Try.ntmps39
  go_wp2_with (first | ((with_reducible refine G.h 2 rfl ?_); refine G.be 2 #[.int .i64 aa, .slice ak ab.length al] 29 ?_; intro aM hg fj hbox hb; have n0 := G.bs HB hb; have n1 := G.m (hbox); have n2 := G.m (caav : w.heap.size ≤ aM); have n3 := G.m (caav : w.heap.size ≤ aM); clear HB; revert n0 n1 n2 n3; intro HB ae dv dw; clear hb hbox hg; have ⟨eG, eH, eI, eJ⟩ := G.d2 (w := fj) ae) | ((with_reducible refine G.f 38 rfl ?_); refine G.gL 11 Try.func38 #[.agg #[.int .i64 aa, .slice ak ab.length al], .int .i64 a1] ?_; (with_reducible refine (spec_l1Knot.calls k aa _ _ ab a1 false _ ?side1 ?side2 A3.out).mono ?_); (case side1 => exact G.cC (Kd.C_below aA.out HB.out)); (case side2 => exact aC.out); rintro e f7 ⟨rfl, hb⟩; refine ⟨_, rfl, ?_⟩; have n0 := G.bb ae hb; have n1 := G.bs HB hb; clear ae HB; revert n0 n1; intro ae HB; (try clear hb)) | ((with_reducible refine G.h 13 rfl ?_); refine Kd.R_lit Kd.bool _ 4 ?hg (N := 13) ?hd (xs := ([] : List Bool)) (inner := []) (ok := fun _ => True) (okp := fun _ => True) ?hr ?hp (fun _ hk => hk) trivial (Below.refl _ _) (Nat.le_refl _) (by simp) ?_; (case hd => rfl); (case hg => rfl); (case hr => first | (go_simp; done) | (go_simp; rfl)); (case hp => exact (Reps.none _ _)); intro fM f8 bD hb hg_ hnew_; clear hg_ hnew_; (first | rw [← cF.out] at bD | (simp only [Int.reduceToNat] at bD; rw [← cF.out] at bD)); have n0 := G.m (Kd.R_lower bD (below_size (G.cB HB.out))); have n1 := G.bb ae hb; have n2 := G.bs HB hb; clear ae HB; revert n0 n1 n2; intro dL ae HB; clear hb bD))
  go_ret
  exact ⟨_, by first | rfl | (simp [errW_none, errW_some] <;> rfl) | (simp [*, errW_none, errW_some] <;> rfl), G.cR dL.out, G.cB HB.out⟩

/-! ### spec_TrailCan: function 15 -/
def spec_TrailCan.l0 : Nat → Int → List Bool → Int → Int → Int → List (S63) → Option (Bool)
 | 0, _, _, _, _, _, _ => none
 | k + 1, x1, x5, x6, x7, aV, a4 => if x7 < aV then ((spec_l2Next.f k aV a4 x7).bind fun az => (if (az.length : Int) > 0 then (if 0 ≤ x7 then (if x7 < (x5.length : Int) then (if rdOf false x5 x7 = true then (spec_TrailCan.l0 k x1 x5 (wrap64 (x6 + ((az.length : Int) % 2))) (wrap64 (x7 + 1)) aV a4) else (some false)) else (none)) else (none)) else (spec_TrailCan.l0 k x1 x5 (wrap64 (x6 + ((az.length : Int) % 2))) (wrap64 (x7 + 1)) aV a4))) else (if x6 = 0 then (some true) else (if x6 = 2 then ((spec_l2Next.f k aV a4 x1).bind fun bY => (some (((bY.length : Int) % 2) == 1))) else (some false)))
def spec_TrailCan.f (k : Nat) (aa : Int) (ab : List (S63)) (a1 : Int) : Option (Bool) := (spec_l1Knot.f k aa ab a1).bind fun bu => (if bu = true then ((spec_WayReach.f k aa ab a1).bind fun aq => (spec_TrailCan.l0 k a1 aq 0 0 aa ab)) else (some false))
theorem spec_TrailCan.mono_l : ∀ k, (∀ y0 y1 y2 y3 y4 y5, LeO (spec_TrailCan.l0 k y0 y1 y2 y3 y4 y5) (spec_TrailCan.l0 (k + 1) y0 y1 y2 y3 y4 y5))
 | 0 => fun _ _ _ _ _ _ r h => by simp [spec_TrailCan.l0] at h
 | k + 1 => by
  have aJ := spec_TrailCan.mono_l k
  ·intro y0 y1 y2 y3 y4 y5; unfold spec_TrailCan.l0
   repeat' first
   | (with_reducible exact aJ _ _ _ _ _ _)
   | (with_reducible exact spec_WayReach.mono _ _ _ _)
   | (with_reducible exact spec_l1Knot.mono _ _ _ _)
   | (with_reducible exact spec_l2Next.mono _ _ _ _)
   | (with_reducible exact LeO.refl _)
   | (with_reducible exact LeO.none _)
   | (with_reducible refine LeO.ite ?_ ?_)
   | (with_reducible refine LeO.bind ?_ (fun _ => ?_))
   | exact aJ _ _ _ _ _ _
   | exact spec_WayReach.mono _ _ _ _
   | exact spec_l1Knot.mono _ _ _ _
   | exact spec_l2Next.mono _ _ _ _
   | exact LeO.none _
   | refine LeO.ite ?_ ?_
   | refine LeO.bind ?_ (fun _ => ?_)
theorem spec_TrailCan.mono : ∀ a0 a1 a2 k, LeO (spec_TrailCan.f k a0 a1 a2) (spec_TrailCan.f (k + 1) a0 a1 a2) := by
 intro a0 a1 a2 k; have aJ := spec_TrailCan.mono_l k; unfold spec_TrailCan.f
 repeat' first | (with_reducible first | exact aJ _ _ _ _ _ _ | exact spec_WayReach.mono _ _ _ _ | exact spec_l1Knot.mono _ _ _ _ | exact spec_l2Next.mono _ _ _ _ | exact LeO.refl _ | exact LeO.none _ | refine LeO.ite ?_ ?_ | refine LeO.bind ?_ (fun _ => ?_)) | exact aJ _ _ _ _ _ _ | exact spec_WayReach.mono _ _ _ _ | exact spec_l1Knot.mono _ _ _ _ | exact spec_l2Next.mono _ _ _ _ | exact LeO.none _ | refine LeO.ite ?_ ?_ | refine LeO.bind ?_ (fun _ => ?_)
set_option maxHeartbeats 8000000 in
set_option maxRecDepth 100000 in
theorem spec_TrailCan.calls (k : Nat) (aa : Int) (ak : Option Addr) (al : Nat) (ab : List (S63)) (a1 : Int) (r : Bool) (w : World) (aR : Kd.C k63 w ak ab.length ab) (aT : ab.length ≤ al) (h : spec_TrailCan.f k aa ab a1 = some r) :
  Calls Try.prog 15 #[.agg #[.int .i64 aa, .slice ak ab.length al], .int .i64 a1] w fun e w' => e = .returned (.bool r) ∧ Below w.heap.size w w' := by
 have cQ := Try.underlying29; have aA := G.m aR; have aC := G.m aT; clear aR aT; have HB := G.m (Below.refl w.heap.size w); have H : ((spec_l1Knot.f k aa ab a1).bind fun bu => (if bu = true then ((spec_WayReach.f k aa ab a1).bind fun aq => (spec_TrailCan.l0 k a1 aq 0 0 aa ab)) else (some false))) = some r := h; clear h; obtain ⟨bu, A3, H⟩ := G.bi H; replace H : (if bu = true then ((spec_WayReach.f k aa ab a1).bind fun aq => (spec_TrailCan.l0 k a1 aq 0 0 aa ab)) else (some false)) = some r := H
 by_cases c4 : bu = true
 ·subst c4; have H1 : ((spec_WayReach.f k aa ab a1).bind fun aq => (spec_TrailCan.l0 k a1 aq 0 0 aa ab)) = some r := by rw [if_pos rfl] at H; exact H
  clear H; have H := H1; clear H1; obtain ⟨aq, A5, H⟩ := G.bi H; replace H : (spec_TrailCan.l0 k a1 aq 0 0 aa ab) = some r := H; have H' := G.m H; clear H
  go_enter Try.func15, Try.ntmps15
  go_wp2_with (first | ((with_reducible refine G.h 2 rfl ?_); (try (refine gate_guard (by rfl) ?_; dsimp only)); refine G.be 2 #[.int .i64 aa, .slice ak ab.length al] 29 ?_; intro a5 hg w6 hbox hb; have n0 := G.bs HB hb; have n1 := G.m (hbox); have n2 := G.m (caav : w.heap.size ≤ a5); have n3 := G.m (caav : w.heap.size ≤ a5); clear HB; revert n0 n1 n2 n3; intro HB ai dM dN; clear hb hbox hg; have ⟨dd, de, df, dg⟩ := G.d2 (w := w6) ai) | ((with_reducible refine G.f 38 rfl ?_); refine G.gL 11 Try.func38 #[.agg #[.int .i64 aa, .slice ak ab.length al], .int .i64 a1] ?_; (with_reducible refine (spec_l1Knot.calls k aa _ _ ab a1 true _ ?side1 ?side2 A3.out).mono ?_); (case side1 => exact G.cC (Kd.C_below aA.out HB.out)); (case side2 => exact aC.out); rintro e w8 ⟨rfl, hb⟩; refine ⟨_, rfl, ?_⟩; have n0 := G.bb ai hb; have n1 := G.bs HB hb; clear ai HB; revert n0 n1; intro ai HB; (try clear hb); have ⟨dh, di, dj, dk⟩ := G.d2 (w := w8) ai) | ((with_reducible refine G.f 39 rfl ?_); refine G.gL 15 Try.func39 #[.agg #[.int .i64 aa, .slice ak ab.length al], .int .i64 a1] ?_; (with_reducible refine (spec_WayReach.calls k aa _ _ ab a1 aq _ ?side1 ?side2 A5.out).mono ?_); (case side1 => exact G.cC (Kd.C_below aA.out HB.out)); (case side2 => exact aC.out); rintro e dX ⟨eq, rfl, aI, hb⟩; refine ⟨_, rfl, ?_⟩; have n0 := G.m (Kd.R_lower aI (below_size (G.cB HB.out))); have n1 := G.bb ai hb; have n2 := G.bs HB hb; clear ai HB; revert n0 n1 n2; intro dO ai HB; (try clear hb aI)))
  go_loopg [6, 7] k (fun kq v6 v7 w' => ∃ (ac : Int) (aj : Int), v6 = .int .i64 ac ∧ v7 = .int .i64 aj ∧ Aside0 (spec_TrailCan.l0 kq a1 aq ac aj aa ab = some r) ∧ Aside0 (kq ≤ k) ∧ Aside0 (Kd.R Kd.bool 4 w' w.heap.size (fun _ => True) eq aq) ∧ Aside0 (w'.heap[a5]? = some (.cells #[.int .i64 aa, (.slice ak ab.length al)] 29 (0, 0))) ∧ Aside0 (Below w.heap.size w w'))
  case atStart => exact ⟨(0), (0), (caau), (caau), H', ⟨Nat.le_refl _⟩, ⟨G.cR dO.out⟩, ⟨G.cb ai.out⟩, ⟨G.cB HB.out⟩⟩
  case round =>
   clear H'; (try clear c4 dd de dh di df dg dj dk); obtain ⟨ac, aj, rfl, rfl, HA, aK, af, ai, HB⟩ := hrel; cases gk with
   | zero => exact absurd HA.out (by simp [spec_TrailCan.l0])
   | succ k1 =>
    have H := HA.out; clear HA; simp only [spec_TrailCan.l0] at H
    by_cases bM : aj < aa
    ·rw [if_pos bM] at H; have dP : decide (aj < aa) = true := decide_eq_true bM; clear bM; obtain ⟨az, dl, H⟩ := G.bi H; replace H : (if (az.length : Int) > 0 then (if 0 ≤ aj then (if aj < (aq.length : Int) then (if rdOf false aq aj = true then (spec_TrailCan.l0 k1 a1 aq (wrap64 (ac + ((az.length : Int) % 2))) (wrap64 (aj + 1)) aa ab) else (some false)) else (none)) else (none)) else (spec_TrailCan.l0 k1 a1 aq (wrap64 (ac + ((az.length : Int) % 2))) (wrap64 (aj + 1)) aa ab)) = some r := H
     by_cases bN : (az.length : Int) > 0
     ·rw [if_pos bN] at H; have dQ : decide (0 < (az.length : Int)) = true := decide_eq_true bN; have dR : decide (0 < az.length) = true := decide_eq_true (by omega); clear bN
      by_cases cG : 0 ≤ aj
      ·rw [if_pos cG] at H; have fx : decide (0 ≤ aj) = true := decide_eq_true cG; clear cG
       by_cases cH : aj < (aq.length : Int)
       ·rw [if_pos cH] at H; have fy : decide (aj < (aq.length : Int)) = true := decide_eq_true cH; clear cH; obtain ⟨dn, bZ⟩ : ∃ b_ : Bool, b_ = (rdOf false aq aj) := ⟨_, rfl⟩; replace H : (if dn = true then (spec_TrailCan.l0 k1 a1 aq (wrap64 (ac + ((az.length : Int) % 2))) (wrap64 (aj + 1)) aa ab) else (some false)) = some r := by rw [← bZ] at H; exact H
        have cI := G.m bZ; clear bZ
        by_cases cJ : dn = true
        ·subst cJ; have H1 : (spec_TrailCan.l0 k1 a1 aq (wrap64 (ac + ((az.length : Int) % 2))) (wrap64 (aj + 1)) aa ab) = some r := by rw [if_pos rfl] at H; exact H
         clear H; have H := H1; clear H1; have H' := G.m H; clear H; have ⟨eK, eL, eM, eN⟩ := G.d2 (w := wr) ai
         go_wp2_with (first | ((with_reducible refine G.f 40 rfl ?_); refine G.gL 24 Try.func40 #[.agg #[.int .i64 aa, .slice ak ab.length al], .int .i64 aj] ?_; (with_reducible refine (spec_l2Next.calls k1 aa _ _ ab aj az _ ?side1 ?side2 dl.out).mono ?_); (case side1 => exact G.cC (Kd.C_below aA.out HB.out)); (case side2 => exact aC.out); rintro e f9 ⟨dp, rfl, aI, hb⟩; refine ⟨_, rfl, ?_⟩; have n0 := G.rb af hb; have n1 := G.m (Kd.R_lower aI (below_size (G.cB HB.out))); have n2 := G.bb ai hb; have n3 := G.bs HB hb; clear af ai HB; revert n0 n1 n2 n3; intro af bp ai HB; (try clear hb aI); obtain ⟨fN, fO, er⟩ := Kd.R_slice bp.out; subst er; obtain ⟨fP, fQ, es⟩ := Kd.R_slice af.out; subst es; have ba : 0 ≤ (aj : Int) := of_decide_eq_true (G.asm); have bc : aj < (aq.length : Int) := of_decide_eq_true (G.asm); obtain ⟨dS, cj, bv⟩ := Kd.at_bool (Kd.R_reads' af.out).2.2 aj ba bc; (try rw [← cI.out] at bv); cases cj; replace ba := eq_true ba; replace bc := eq_true bc))
         go_roundg k1
         case measure => have := aK.out; omega
         case rel => exact ⟨(wrap64 (ac + ((az.length : Int) % 2))), (wrap64 (aj + 1)), (caau), (caau), H', ⟨by have := aK.out; omega⟩, ⟨G.cR af.out⟩, ⟨G.cb ai.out⟩, ⟨G.cB HB.out⟩⟩
        ·replace cJ := Bool.eq_false_iff.mpr cJ; subst cJ; have H1 : (some false) = some r := by rw [if_neg (show ¬ (false = true) by decide)] at H; exact H
         clear H; have H := H1; clear H1; obtain rfl := Option.some.inj H; have ⟨eO, eP, eQ, eR⟩ := G.d2 (w := wr) ai
         go_wp2_with (first | ((with_reducible refine G.f 40 rfl ?_); refine G.gL 24 Try.func40 #[.agg #[.int .i64 aa, .slice ak ab.length al], .int .i64 aj] ?_; (with_reducible refine (spec_l2Next.calls k1 aa _ _ ab aj az _ ?side1 ?side2 dl.out).mono ?_); (case side1 => exact G.cC (Kd.C_below aA.out HB.out)); (case side2 => exact aC.out); rintro e f_ ⟨dp, rfl, aI, hb⟩; refine ⟨_, rfl, ?_⟩; have n0 := G.rb af hb; have n1 := G.m (Kd.R_lower aI (below_size (G.cB HB.out))); have n2 := G.bb ai hb; have n3 := G.bs HB hb; clear af ai HB; revert n0 n1 n2 n3; intro af bp ai HB; (try clear hb aI); obtain ⟨ee, bB, b7⟩ := Kd.R_slice bp.out; subst b7; obtain ⟨fR, fS, et⟩ := Kd.R_slice af.out; subst et; have ba : 0 ≤ (aj : Int) := of_decide_eq_true (G.asm); have bc : aj < (aq.length : Int) := of_decide_eq_true (G.asm); obtain ⟨dS, cj, bv⟩ := Kd.at_bool (Kd.R_reads' af.out).2.2 aj ba bc; (try rw [← cI.out] at bv); cases cj; replace ba := eq_true ba; replace bc := eq_true bc))
         go_ret
         exact ⟨caax, G.cB HB.out⟩
       ·rw [if_neg cH] at H; exact absurd H (by simp)
      ·rw [if_neg cG] at H; exact absurd H (by simp)
     ·rw [if_neg bN] at H; have dQ : decide (0 < (az.length : Int)) = false := decide_eq_false bN; have dR : decide (0 < az.length) = false := decide_eq_false (by omega); clear bN; have H' := G.m H; clear H; have ⟨eS, eT, eU, eV⟩ := G.d2 (w := wr) ai
      go_wp2_with (first | ((with_reducible refine G.f 40 rfl ?_); refine G.gL 24 Try.func40 #[.agg #[.int .i64 aa, .slice ak ab.length al], .int .i64 aj] ?_; (with_reducible refine (spec_l2Next.calls k1 aa _ _ ab aj az _ ?side1 ?side2 dl.out).mono ?_); (case side1 => exact G.cC (Kd.C_below aA.out HB.out)); (case side2 => exact aC.out); rintro e ga ⟨dp, rfl, aI, hb⟩; refine ⟨_, rfl, ?_⟩; have n0 := G.rb af hb; have n1 := G.m (Kd.R_lower aI (below_size (G.cB HB.out))); have n2 := G.bb ai hb; have n3 := G.bs HB hb; clear af ai HB; revert n0 n1 n2 n3; intro af bp ai HB; (try clear hb aI); obtain ⟨fT, fU, eu⟩ := Kd.R_slice bp.out; subst eu))
      go_roundg k1
      case measure => have := aK.out; omega
      case rel => exact ⟨(wrap64 (ac + ((az.length : Int) % 2))), (wrap64 (aj + 1)), (caau), (caau), H', ⟨by have := aK.out; omega⟩, ⟨G.cR af.out⟩, ⟨G.cb ai.out⟩, ⟨G.cB HB.out⟩⟩
    ·rw [if_neg bM] at H; have dP : decide (aj < aa) = false := decide_eq_false bM; clear bM
     by_cases aX : ac = 0
     ·rw [if_pos aX] at H; have cw : (ac == 0) = true := beq_iff_eq.mpr aX; have dT : (ac != 0) = false := bne_eq_false_iff_eq.mpr aX; clear aX; obtain rfl := Option.some.inj H; have ⟨eW, eX, eY, eZ⟩ := G.d2 (w := wr) ai
      go_wp2
      go_ret
      exact ⟨caax, G.cB HB.out⟩
     ·rw [if_neg aX] at H; have cw : (ac == 0) = false := beq_eq_false_iff_ne.mpr aX; have dT : (ac != 0) = true := bne_iff_ne.mpr aX
      by_cases aY : ac = 2
      ·rw [if_pos aY] at H; have cy : (ac == 2) = true := beq_iff_eq.mpr aY; have dU : (ac != 2) = false := bne_eq_false_iff_eq.mpr aY; clear aY; obtain ⟨bY, fk, H⟩ := G.bi H; replace H : (some (((bY.length : Int) % 2) == 1)) = some r := H; obtain rfl := Option.some.inj H; have ⟨e2, e3, e4, e5⟩ := G.d2 (w := wr) ai
       go_wp2_with (first | (go_at_call 40; (with_reducible refine (spec_l2Next.calls k1 aa _ _ ab a1 bY _ ?side1 ?side2 fk.out).mono ?_); (case side1 => exact G.cC (Kd.C_below aA.out HB.out)); (case side2 => exact aC.out); rintro e gb ⟨fV, rfl, aI, hb⟩; have n0 := G.rb af hb; have n1 := G.m (Kd.R_lower aI (below_size (G.cB HB.out))); have n2 := G.bb ai hb; have n3 := G.bs HB hb; clear af ai HB; revert n0 n1 n2 n3; intro af dV ai HB; (try clear hb aI); obtain ⟨fW, fX, ev⟩ := Kd.R_slice dV.out; subst ev))
       go_ret
       exact ⟨caax, G.cB HB.out⟩
      ·rw [if_neg aY] at H; have cy : (ac == 2) = false := beq_eq_false_iff_ne.mpr aY; have dU : (ac != 2) = true := bne_iff_ne.mpr aY; obtain rfl := Option.some.inj H; have ⟨e6, e7, e8, e9⟩ := G.d2 (w := wr) ai
       go_wp2
       go_ret
       exact ⟨caax, G.cB HB.out⟩
 ·replace c4 := Bool.eq_false_iff.mpr c4; subst c4; have H1 : (some false) = some r := by rw [if_neg (show ¬ (false = true) by decide)] at H; exact H
  clear H; have H := H1; clear H1; obtain rfl := Option.some.inj H
  go_enter Try.func15, Try.ntmps15
  go_wp2_with (first | ((with_reducible refine G.h 2 rfl ?_); (try (refine gate_guard (by rfl) ?_; dsimp only)); refine G.be 2 #[.int .i64 aa, .slice ak ab.length al] 29 ?_; intro a5 hg fm hbox hb; have n0 := G.bs HB hb; have n1 := G.m (hbox); have n2 := G.m (caav : w.heap.size ≤ a5); have n3 := G.m (caav : w.heap.size ≤ a5); clear HB; revert n0 n1 n2 n3; intro HB ai dM dN; clear hb hbox hg; have ⟨fa, fb, fc, fd⟩ := G.d2 (w := fm) ai) | ((with_reducible refine G.f 38 rfl ?_); refine G.gL 11 Try.func38 #[.agg #[.int .i64 aa, .slice ak ab.length al], .int .i64 a1] ?_; (with_reducible refine (spec_l1Knot.calls k aa _ _ ab a1 false _ ?side1 ?side2 A3.out).mono ?_); (case side1 => exact G.cC (Kd.C_below aA.out HB.out)); (case side2 => exact aC.out); rintro e cE ⟨rfl, hb⟩; refine ⟨_, rfl, ?_⟩; have n0 := G.bb ai hb; have n1 := G.bs HB hb; clear ai HB; revert n0 n1; intro ai HB; (try clear hb)))
  go_ret
  exact ⟨caax, G.cB HB.out⟩

end Go.Proofs.Ytbkdpnfjcnkoeaa.P
