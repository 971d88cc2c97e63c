-- Printed by a program of this session (mp.py, over the kit's print). Not trusted: Lean checks it.
import Derived.Test.YtjkeagcenmmknaaF0
import Derived.Test.YtjkeagcenmmknaaF1
import Derived.Test.YtjkeagcenmmknaaF2
namespace Go.Proofs.Ytjkeagcenmmknaa.P
open Go.RowKit Go.Proofs.YtjkeagcenmmknaaW.PrintWords Go.Proofs.YtjkeagcenmmknaaW.PrintLast Go.Proofs.YtjkeagcenmmknaaW.PrintMore
attribute [local go_sem] max2_int min2_int max_two min_two max_three min_three max_four min_four   -- for this text's walks alone
set_option linter.unusedVariables false
set_option linter.unusedSimpArgs false

theorem caao {p : Prop} (h : p := by (with_reducible repeat (first | refine blk_drewN ?_ _ | refine blk_drew ?_ | refine blk_alloc ?_ _)); refine blk_put (cs := #[.int .i64 ((rd_T40 l1 aa).f0), .int .i64 0]) ?_ 1 _ rfl; (with_reducible repeat (first | refine blk_drewN ?_ _ | refine blk_drew ?_ | refine blk_alloc ?_ _)); refine blk_put (cs := #[.int .i64 0, .int .i64 0]) ?_ 0 _ rfl; (with_reducible repeat (first | refine blk_drewN ?_ _ | refine blk_drew ?_ | refine blk_alloc ?_ _)); exact ai.out) : p := h
theorem caap {p : Prop} (h : p := by (with_reducible repeat (first | refine blk_drewN ?_ _ | refine blk_drew ?_ | refine blk_alloc ?_ _)); refine blk_far ?_ aq.out _; (with_reducible repeat (first | refine blk_drewN ?_ _ | refine blk_drew ?_ | refine blk_alloc ?_ _)); refine blk_far ?_ aq.out _; (with_reducible repeat (first | refine blk_drewN ?_ _ | refine blk_drew ?_ | refine blk_alloc ?_ _)); exact ae.out) : p := h
theorem caaq {p : Prop} (h : p := by (with_reducible repeat (first | apply Kd.R_alloc | apply Kd.R_drewN | apply Kd.R_drew)); exact (Kd.R_mono (Kd.R_far (p := ⟨ak, 1, none⟩) (Kd.R_far (p := ⟨ak, 0, none⟩) (Kd.R_types af.out ai.out (by decide)) (fun _ hk => hk.2) (.int .i64 ((rd_T40 l1 aa).f0))) (fun _ hk => hk.2) (.int .i64 ((rd_T40 l1 aa).f1))) (fun _ h_ => h_.1))) : p := h
theorem caar {p : Prop} (h : p := by rw [hg]; exact Nat.ne_of_lt (blk_lt (g := am) (o := .cells #[.int .i64 ac, .slice ao ab.length al] 30 (0, 0)) (G.cb ae.out))) : p := h
theorem caas {p : Prop} (h : p := by rw [hg]; exact Nat.ne_of_gt (blk_lt (g := am) (o := .cells #[.int .i64 ac, .slice ao ab.length al] 30 (0, 0)) (G.cb ae.out))) : p := h
theorem caan {p : Prop} (h : p := by first | rfl | (simp [errW_none, errW_some] <;> rfl) | (simp [*, errW_none, errW_some] <;> rfl)) : p := h
theorem caal {p : Prop} (h : p := by first | rfl | (simp; done) | (simp [*]; done)) : p := h
theorem caam {p : Prop} (h : p := by rw [hg]; exact (below_size (G.cB HB.out))) : p := h
theorem caat {p : Prop} (h : p := by kernel_rfl) : p := h
attribute [local go_sem high] eqA40
/-! ### spec_l1Tie: function 27 -/
def spec_l1Tie.f (a0 : Int) (a1 : Int) : Option (Int × Int) := if a0 < a1 then (some (a0, a1)) else (some (a1, a0))
set_option maxHeartbeats 8000000 in
set_option maxRecDepth 100000 in
theorem spec_l1Tie.calls (a0 : Int) (a1 : Int) (r1 : Int) (r2 : Int) (w : World) (h : spec_l1Tie.f a0 a1 = some (r1, r2)) :
  Calls Try.prog 27 #[.int .i64 a0, .int .i64 a1] w fun e w' => e = .returned (.agg #[.int .i64 r1, .int .i64 r2]) ∧ Below w.heap.size w w' := by
 have ce := Try.underlying40; have HB := G.m (Below.refl w.heap.size w); have H : (if a0 < a1 then (some (a0, a1)) else (some (a1, a0))) = some (r1, r2) := h; clear h
 by_cases c3 : a0 < a1
 ·rw [if_pos c3] at H; have cf : decide (a0 < a1) = true := decide_eq_true c3; clear c3; simp only [Option.some.injEq, Prod.mk.injEq] at H; obtain ⟨rfl, rfl⟩ := H
  go_enter Try.func27, Try.ntmps27
  go_wp2_with (first | ((with_reducible refine G.h 4 rfl ?_); refine G.be 4 #[.int .i64 0, .int .i64 0] 40 ?_; intro aP hg w4 hbox hb; have n0 := G.bs HB hb; have n1 := G.m (hbox); have n2 := G.m (caam : w.heap.size ≤ aP); have n3 := G.m (caam : w.heap.size ≤ aP); clear HB; revert n0 n1 n2 n3; intro HB a7 cw cx; clear hb hbox hg; have ⟨ej, ek, el, em⟩ := G.d2 (w := w4) a7))
  refine bodyPost_ret (results_cell_row rfl _ _ aP 40 #[.int .i64 a0, .int .i64 a1] (0, 0) _ rfl (by (with_reducible repeat (first | refine blk_drewN ?_ _ | refine blk_drew ?_ | refine blk_alloc ?_ _)); refine blk_put (cs := #[.int .i64 a0, .int .i64 0]) ?_ 1 _ rfl; (with_reducible repeat (first | refine blk_drewN ?_ _ | refine blk_drew ?_ | refine blk_alloc ?_ _)); refine blk_put (cs := #[.int .i64 0, .int .i64 0]) ?_ 0 _ rfl; (with_reducible repeat (first | refine blk_drewN ?_ _ | refine blk_drew ?_ | refine blk_alloc ?_ _)); exact a7.out) Try.underlying40 rfl (caat)) rfl ?_; exact ⟨caan, G.cB HB.out⟩
 ·rw [if_neg c3] at H; have cf : decide (a0 < a1) = false := decide_eq_false c3; clear c3; simp only [Option.some.injEq, Prod.mk.injEq] at H; obtain ⟨rfl, rfl⟩ := H
  go_enter Try.func27, Try.ntmps27
  go_wp2_with (first | ((with_reducible refine G.h 4 rfl ?_); refine G.be 4 #[.int .i64 0, .int .i64 0] 40 ?_; intro aP hg w6 hbox hb; have n0 := G.bs HB hb; have n1 := G.m (hbox); have n2 := G.m (caam : w.heap.size ≤ aP); have n3 := G.m (caam : w.heap.size ≤ aP); clear HB; revert n0 n1 n2 n3; intro HB a7 cw cx; clear hb hbox hg; have ⟨en, eo, ep, eq⟩ := G.d2 (w := w6) a7))
  refine bodyPost_ret (results_cell_row rfl _ _ aP 40 #[.int .i64 a1, .int .i64 a0] (0, 0) _ rfl (by (with_reducible repeat (first | refine blk_drewN ?_ _ | refine blk_drew ?_ | refine blk_alloc ?_ _)); refine blk_put (cs := #[.int .i64 a1, .int .i64 0]) ?_ 1 _ rfl; (with_reducible repeat (first | refine blk_drewN ?_ _ | refine blk_drew ?_ | refine blk_alloc ?_ _)); refine blk_put (cs := #[.int .i64 0, .int .i64 0]) ?_ 0 _ rfl; (with_reducible repeat (first | refine blk_drewN ?_ _ | refine blk_drew ?_ | refine blk_alloc ?_ _)); exact a7.out) Try.underlying40 rfl (caat)) rfl ?_; exact ⟨caan, G.cB HB.out⟩

/-! ### spec_l1Has: function 15 -/
def spec_l1Has.l0 : Nat → Int → Int → Int → Int → List (S40) → Option (Bool)
 | 0, _, _, _, _, _ => none
 | k + 1, x1, x2, x7, b2, aT => if x7 < (aT.length : Int) then (if 0 ≤ x7 then ((spec_l1Tie.f x1 x2).bind fun bP => (if (((rd_T40 aT x7).f0) == bP.1 && (((rd_T40 aT x7).f1) == bP.2)) = true then (some true) else (spec_l1Has.l0 k x1 x2 (wrap64 (x7 + 1)) b2 aT))) else (none)) else (some false)
def spec_l1Has.f (k : Nat) (ac : Int) (ab : List (S40)) (a1 : Int) (a2 : Int) : Option (Bool) := spec_l1Has.l0 k a1 a2 0 ac ab
theorem spec_l1Has.mono_l : ∀ k, (∀ y0 y1 y2 y3 y4, LeO (spec_l1Has.l0 k y0 y1 y2 y3 y4) (spec_l1Has.l0 (k + 1) y0 y1 y2 y3 y4))
 | 0 => fun _ _ _ _ _ r h => by simp [spec_l1Has.l0] at h
 | k + 1 => by
  have aE := spec_l1Has.mono_l k
  ·intro y0 y1 y2 y3 y4; unfold spec_l1Has.l0
   repeat' first
   | (with_reducible exact aE _ _ _ _ _)
   | (with_reducible exact LeO.refl _)
   | (with_reducible exact LeO.none _)
   | (with_reducible refine LeO.ite ?_ ?_)
   | (with_reducible refine LeO.bind ?_ (fun _ => ?_))
   | exact aE _ _ _ _ _
   | exact LeO.none _
   | refine LeO.ite ?_ ?_
   | refine LeO.bind ?_ (fun _ => ?_)
theorem spec_l1Has.mono : ∀ a0 a1 a2 a3 k, LeO (spec_l1Has.f k a0 a1 a2 a3) (spec_l1Has.f (k + 1) a0 a1 a2 a3) := by
 intro a0 a1 a2 a3 k; have aE := spec_l1Has.mono_l k; unfold spec_l1Has.f
 repeat' first | (with_reducible first | exact aE _ _ _ _ _ | exact LeO.refl _ | exact LeO.none _ | refine LeO.ite ?_ ?_ | refine LeO.bind ?_ (fun _ => ?_)) | exact aE _ _ _ _ _ | exact LeO.none _ | refine LeO.ite ?_ ?_ | refine LeO.bind ?_ (fun _ => ?_)
def spec_l1Has.T4 : Bool × List (List Nat × List Nat) := (true, [([], []), ([0], [0]), ([], []), ([1, 2], [1, 2]), ([3], [3]), ([], []), ([], []), ([5, 6], [5, 6]), ([4, 7], [4, 7])])
def spec_l1Has.B4 : List Nat := [0, 1, 0, 7, 15, 0, 0, 96, 255]
theorem spec_l1Has.tab4 : rtab .any (opsOf Try.f15 4) = spec_l1Has.T4 := by kernel_rfl
theorem spec_l1Has.bits4 : waitsOk spec_l1Has.T4.2 spec_l1Has.B4 = true := by kernel_rfl
set_option maxHeartbeats 8000000 in
set_option maxRecDepth 100000 in
theorem spec_l1Has.calls (k : Nat) (ac : Int) (ao : Option Addr) (al : Nat) (ab : List (S40)) (a1 : Int) (a2 : Int) (r : Bool) (w : World) (a8 : Kd.C k40 w ao ab.length ab) (a9 : ab.length ≤ al) (h : spec_l1Has.f k ac ab a1 a2 = some r) :
  Calls Try.prog 15 #[.agg #[.int .i64 ac, .slice ao ab.length al], .int .i64 a1, .int .i64 a2] w fun e w' => e = .returned (.bool r) ∧ Below w.heap.size w w' := by
 have cW := Try.underlying30; have ce := Try.underlying40; have aF := G.m a8; have aQ := G.m a9; clear a8 a9; have HB := G.m (Below.refl w.heap.size w); have H : (spec_l1Has.l0 k a1 a2 0 ac ab) = some r := h; clear h; have H' := G.m H; clear H
 go_enter Try.func15, Try.ntmps15
 go_wp2_with (first | ((with_reducible refine G.h 3 rfl ?_); refine G.be 3 #[.int .i64 ac, .slice ao ab.length al] 30 ?_; intro aR hg w4 hbox hb; have n0 := G.bs HB hb; have n1 := G.m (hbox); have n2 := G.m (caam : w.heap.size ≤ aR); have n3 := G.m (caam : w.heap.size ≤ aR); clear HB; revert n0 n1 n2 n3; intro HB aj eK eL; clear hb hbox hg))
 go_loopg [7] k (fun kq v7 w' => ∃ (ag : Int), v7 = .int .i64 ag ∧ Aside0 (spec_l1Has.l0 kq a1 a2 ag ac ab = some r) ∧ Aside0 (kq ≤ k) ∧ Aside0 (w'.heap[aR]? = some (.cells #[.int .i64 ac, (.slice ao ab.length al)] 30 (0, 0))) ∧ Aside0 (Below w.heap.size w w'))
 case atStart => exact ⟨(0), (caal), H', ⟨Nat.le_refl _⟩, ⟨G.cb aj.out⟩, ⟨G.cB HB.out⟩⟩
 case round =>
  clear H'; obtain ⟨ag, rfl, HA, bA, aj, HB⟩ := hrel; cases gk with
  | zero => exact absurd HA.out (by simp [spec_l1Has.l0])
  | succ k1 =>
   have H := HA.out; clear HA; simp only [spec_l1Has.l0] at H
   by_cases c5 : ag < (ab.length : Int)
   ·rw [if_pos c5] at H; have bG : decide (ag < (ab.length : Int)) = true := decide_eq_true c5; clear c5
    by_cases c6 : 0 ≤ ag
    ·rw [if_pos c6] at H; have e7 : decide (0 ≤ ag) = true := decide_eq_true c6; clear c6; obtain ⟨⟨aI, aJ⟩, A7, H⟩ := G.bi H; replace H : (if (((rd_T40 ab ag).f0) == aI && (((rd_T40 ab ag).f1) == aJ)) = true then (some true) else (spec_l1Has.l0 k1 a1 a2 (wrap64 (ag + 1)) ac ab)) = some r := H
     by_cases c8 : (((rd_T40 ab ag).f0) == aI && (((rd_T40 ab ag).f1) == aJ)) = true
     ·rw [if_pos c8] at H; have bH : (((rd_T40 ab ag).f0) == aI && (((rd_T40 ab ag).f1) == aJ)) = true := c8; (try (have cX : decide (((rd_T40 ab ag).f0) = aI && (((rd_T40 ab ag).f1) == aJ)) = true := by simpa using c8)); (try (have cY : (((rd_T40 ab ag).f0) == aI && (((rd_T40 ab ag).f1) == aJ)) = true := by simpa using c8)); clear c8; obtain rfl := Option.some.inj H; have ⟨er, es, et, eu⟩ := G.d2 (w := wr) aj; try go_wp2
      have n0 := G.m (blk_drew aj.out); have n1 := G.m (below_drew1 HB.out); clear aj HB; revert n0 n1; intro aj HB; have aV : 0 ≤ (ag : Int) := of_decide_eq_true (G.asm); have aW : ag < (ab.length : Int) := of_decide_eq_true (G.asm); obtain ⟨aG, bI, ax, ay⟩ := at_T40 aF.out ag aV aW; have aN := ay; have aO := ax; cases bI; replace ax := G.hx HB ax; replace ay := G.hx HB ay; replace aV := eq_true aV; replace aW := eq_true aW; refine G.st 9 (S := fun w' => w'.cell? ⟨aR, 0, none⟩ = some (.int .i64 ac) ∧ w'.cell? ⟨aR, 1, none⟩ = some (.slice (some aG) ab.length al) ∧ w'.cell? (aG.add ((ag).toNat * 2)) = some (.int .i64 ((rd_T40 ab ag).f0)) ∧ w'.cell? ⟨(aG.add ((ag).toNat * 2)).block, (aG.add ((ag).toNat * 2)).off + 1, none⟩ = some (.int .i64 ((rd_T40 ab ag).f1))) [] ⟨G.z aj 0, G.z aj 1, (G.hx HB aO), (G.hx HB aN)⟩ spec_l1Has.tab4 spec_l1Has.bits4 (fun hHeld HT_ HW_ => ?_); generalize wr.drew = fi at aj HB ax ay hHeld ⊢; refine G.pu 0 15 1 ?_; refine G.pu 2 17 5 ?_; refine G.pu 5 20 37 ?_; refine G.pu 6 21 101 ?_; refine G.ta4 1 16 103 ?_; refine G.pu 3 18 111 ?_; refine G.ta4 4 19 127 ?_; refine G.on 7 22 255 (fun K hK => ?_); refine G.gs Try.func27 #[.int .i64 a1, .int .i64 a2] ?_; with_reducible refine (spec_l1Tie.calls a1 a2 aI aJ _ A7.out).mono ?_
      rintro e ev ⟨rfl, hb⟩; refine ⟨_, rfl, ?_⟩; have n0 := G.bb aj hb; have n1 := G.bs HB hb; clear aj HB; revert n0 n1; intro aj HB; (try clear hb); refine hK.out _ _ ⟨G.z aj 0, G.z aj 1, (G.hx HB aO), (G.hx HB aN)⟩ (fun hHeld => ?_); clear hK K; refine G.no 22 ?_; refine G.pu 8 23 511 ?_; refine done_ (done_of HT_.out (caat)) ?_; try go_wp2
      go_ret
      exact ⟨caan, G.cB HB.out⟩
     ·rw [if_neg c8] at H; have bH : (((rd_T40 ab ag).f0) == aI && (((rd_T40 ab ag).f1) == aJ)) = false := by simpa using c8
      (try (have cX : decide (((rd_T40 ab ag).f0) = aI && (((rd_T40 ab ag).f1) == aJ)) = false := by simpa using c8)); (try (have cY : (((rd_T40 ab ag).f0) == aI && (((rd_T40 ab ag).f1) == aJ)) = false := by simpa using c8)); (try (have e8 : ¬ (((rd_T40 ab ag).f0) = aI && (((rd_T40 ab ag).f1) == aJ)) := by simpa using c8)); clear c8; have H' := G.m H; clear H; have ⟨b3, b4, b5, b6⟩ := G.d2 (w := wr) aj; try go_wp2
      have n0 := G.m (blk_drew aj.out); have n1 := G.m (below_drew1 HB.out); clear aj HB; revert n0 n1; intro aj HB; have aV : 0 ≤ (ag : Int) := of_decide_eq_true (G.asm); have aW : ag < (ab.length : Int) := of_decide_eq_true (G.asm); obtain ⟨aG, bI, ax, ay⟩ := at_T40 aF.out ag aV aW; have aN := ay; have aO := ax; cases bI; replace ax := G.hx HB ax; replace ay := G.hx HB ay; replace aV := eq_true aV; replace aW := eq_true aW; refine G.st 9 (S := fun w' => w'.cell? ⟨aR, 0, none⟩ = some (.int .i64 ac) ∧ w'.cell? ⟨aR, 1, none⟩ = some (.slice (some aG) ab.length al) ∧ w'.cell? (aG.add ((ag).toNat * 2)) = some (.int .i64 ((rd_T40 ab ag).f0)) ∧ w'.cell? ⟨(aG.add ((ag).toNat * 2)).block, (aG.add ((ag).toNat * 2)).off + 1, none⟩ = some (.int .i64 ((rd_T40 ab ag).f1))) [] ⟨G.z aj 0, G.z aj 1, (G.hx HB aO), (G.hx HB aN)⟩ spec_l1Has.tab4 spec_l1Has.bits4 (fun hHeld HT_ HW_ => ?_); generalize wr.drew = ew at aj HB ax ay hHeld ⊢; refine G.pu 0 15 1 ?_; refine G.pu 2 17 5 ?_; refine G.pu 5 20 37 ?_; refine G.pu 6 21 101 ?_; refine G.ta4 1 16 103 ?_; refine G.pu 3 18 111 ?_; refine G.ta4 4 19 127 ?_; refine G.on 7 22 255 (fun K hK => ?_); refine G.gs Try.func27 #[.int .i64 a1, .int .i64 a2] ?_; with_reducible refine (spec_l1Tie.calls a1 a2 aI aJ _ A7.out).mono ?_
      rintro e fj ⟨rfl, hb⟩; refine ⟨_, rfl, ?_⟩; have n0 := G.bb aj hb; have n1 := G.bs HB hb; clear aj HB; revert n0 n1; intro aj HB; (try clear hb); refine hK.out _ _ ⟨G.z aj 0, G.z aj 1, (G.hx HB aO), (G.hx HB aN)⟩ (fun hHeld => ?_); clear hK K; refine G.no 22 ?_; refine G.pu 8 23 511 ?_; refine done_ (done_of HT_.out (caat)) ?_; try go_wp2
      go_roundg k1
      case measure => have := bA.out; omega
      case rel => exact ⟨(wrap64 (ag + 1)), (caal), H', ⟨by have := bA.out; omega⟩, ⟨G.cb aj.out⟩, ⟨G.cB HB.out⟩⟩
    ·rw [if_neg c6] at H; exact absurd H (by simp)
   ·rw [if_neg c5] at H; have bG : decide (ag < (ab.length : Int)) = false := decide_eq_false c5; clear c5; obtain rfl := Option.some.inj H; have ⟨dg, dh, di, dj⟩ := G.d2 (w := wr) aj
    go_wp2
    go_ret
    exact ⟨caan, G.cB HB.out⟩

/-! ### spec_PairOk: function 7 -/
mutual
def spec_PairOk.j0 : Nat → List (S40) → Bool → Int → List (S40) → Option (Bool)
 | 0, _, _, _, _ => none
 | k + 1, x1, ex, aD, aU => if ex = true then (some false) else (if 0 ≤ aD then (if (aD : Int).toNat ≤ 281474976710656 then (spec_PairOk.l0 k x1 (List.replicate (aD : Int).toNat false) 0 aD aU) else (none)) else (none))
def spec_PairOk.l0 : Nat → List (S40) → List Bool → Int → Int → List (S40) → Option (Bool)
 | 0, _, _, _, _, _ => none
 | k + 1, x1, x5, x6, aD, aU => if x6 < (x1.length : Int) then (if 0 ≤ x6 then ((spec_l1Has.f k aD aU ((rd_T40 x1 x6).f0) ((rd_T40 x1 x6).f1)).bind fun bq => (if bq = true then (if 0 ≤ ((rd_T40 x1 x6).f0) then (if ((rd_T40 x1 x6).f0) < (x5.length : Int) then (if rdOf false x5 ((rd_T40 x1 x6).f0) = true then (some false) else (if 0 ≤ ((rd_T40 x1 x6).f1) then (if ((rd_T40 x1 x6).f1) < (x5.length : Int) then (if rdOf false x5 ((rd_T40 x1 x6).f1) = true then (some false) else (spec_PairOk.l0 k x1 ((x5.set (((rd_T40 x1 x6).f0) : Int).toNat true).set (((rd_T40 x1 x6).f1) : Int).toNat true) (wrap64 (x6 + 1)) aD aU)) else (none)) else (none))) else (none)) else (none)) else (some false))) else (none)) else (some true)
end
def spec_PairOk.f (k : Nat) (ac : Int) (ab : List (S40)) (l1 : List (S40)) : Option (Bool) := (spec_NetOk.f k ac ab).bind fun bf => (if bf = true then ((spec_NetOk.f k ac l1).bind fun aK => (spec_PairOk.j0 k l1 (!aK) ac ab)) else (spec_PairOk.j0 k l1 true ac ab))
theorem spec_PairOk.mono_l : ∀ k, (∀ y0 y1 y2 y3, LeO (spec_PairOk.j0 k y0 y1 y2 y3) (spec_PairOk.j0 (k + 1) y0 y1 y2 y3)) ∧ (∀ y0 y1 y2 y3 y4, LeO (spec_PairOk.l0 k y0 y1 y2 y3 y4) (spec_PairOk.l0 (k + 1) y0 y1 y2 y3 y4))
 | 0 => ⟨fun _ _ _ _ r h => by simp [spec_PairOk.j0] at h, fun _ _ _ _ _ r h => by simp [spec_PairOk.l0] at h⟩
 | k + 1 => by
  obtain ⟨aE, bB⟩ := spec_PairOk.mono_l k; refine ⟨?_, ?_⟩ <;> intros
  all_goals first | unfold spec_PairOk.j0 | unfold spec_PairOk.l0
  repeat' first | (with_reducible first | exact aE _ _ _ _ | exact bB _ _ _ _ _ | exact spec_NetOk.mono _ _ _ | exact spec_l1Has.mono _ _ _ _ _ | exact LeO.refl _ | exact LeO.none _ | refine LeO.ite ?_ ?_ | refine LeO.bind ?_ (fun _ => ?_)) | exact aE _ _ _ _ | exact bB _ _ _ _ _ | exact spec_NetOk.mono _ _ _ | exact spec_l1Has.mono _ _ _ _ _ | exact LeO.none _ | refine LeO.ite ?_ ?_ | refine LeO.bind ?_ (fun _ => ?_)
theorem spec_PairOk.mono : ∀ a0 a1 a2 k, LeO (spec_PairOk.f k a0 a1 a2) (spec_PairOk.f (k + 1) a0 a1 a2) := by
 intro a0 a1 a2 k; obtain ⟨aE, bB⟩ := spec_PairOk.mono_l k; unfold spec_PairOk.f
 repeat' first | (with_reducible first | exact aE _ _ _ _ | exact bB _ _ _ _ _ | exact spec_NetOk.mono _ _ _ | exact spec_l1Has.mono _ _ _ _ _ | exact LeO.refl _ | exact LeO.none _ | refine LeO.ite ?_ ?_ | refine LeO.bind ?_ (fun _ => ?_)) | exact aE _ _ _ _ | exact bB _ _ _ _ _ | exact spec_NetOk.mono _ _ _ | exact spec_l1Has.mono _ _ _ _ _ | exact LeO.none _ | refine LeO.ite ?_ ?_ | refine LeO.bind ?_ (fun _ => ?_)
set_option maxHeartbeats 8000000 in
set_option maxRecDepth 100000 in
theorem spec_PairOk.calls (k : Nat) (ac : Int) (ao : Option Addr) (al : Nat) (ab : List (S40)) (A1 : Option Addr) (c1 : Nat) (l1 : List (S40)) (r : Bool) (w : World) (a8 : Kd.C k40 w ao ab.length ab) (a9 : ab.length ≤ al) (hr1 : Kd.C k40 w A1 l1.length l1) (cJ : l1.length ≤ c1) (h : spec_PairOk.f k ac ab l1 = some r) :
  Calls Try.prog 7 #[.agg #[.int .i64 ac, .slice ao ab.length al], .slice A1 l1.length c1] w fun e w' => e = .returned (.bool r) ∧ Below w.heap.size w w' := by
 have cW := Try.underlying30; have ce := Try.underlying40; have aF := G.m a8; have aQ := G.m a9; clear a8 a9; have bC := G.m hr1; have ey := G.m cJ; clear hr1 cJ; have HB := G.m (Below.refl w.heap.size w); have H : ((spec_NetOk.f k ac ab).bind fun bf => (if bf = true then ((spec_NetOk.f k ac l1).bind fun aK => (spec_PairOk.j0 k l1 (!aK) ac ab)) else (spec_PairOk.j0 k l1 true ac ab))) = some r := h; clear h; have cg := G.m H; clear H
 go_enter Try.func7, Try.ntmps7
 go_upto_region 1 with (first | ((with_reducible refine G.h 2 rfl ?_); refine G.be 2 #[.int .i64 ac, .slice ao ab.length al] 30 ?_; intro am hg w4 hbox hb; have n0 := G.bs HB hb; have n1 := G.m (hbox); have n2 := G.m (caam : w.heap.size ≤ am); have n3 := G.m (caam : w.heap.size ≤ am); clear HB; revert n0 n1 n2 n3; intro HB ae eM eN; clear hb hbox hg))
 (try simp only [Act.put, List.setIfInBounds_toArray, List.set_cons_zero, List.set_cons_succ])
 go_cut [18] (fun ez wc => ∃ (kq : Nat) (bj : Bool), ez = .bool bj ∧ Aside0 (spec_PairOk.j0 kq l1 bj ac ab = some r) ∧ Aside0 (kq ≤ k) ∧ Aside0 (wc.heap[am]? = some (.cells #[.int .i64 ac, (.slice ao ab.length al)] 30 (0, 0))) ∧ Aside0 (Below w.heap.size w wc))
 case first =>
  have H := cg.out; clear cg; obtain ⟨bf, A5, H⟩ := G.bi H; replace H : (if bf = true then ((spec_NetOk.f k ac l1).bind fun aK => (spec_PairOk.j0 k l1 (!aK) ac ab)) else (spec_PairOk.j0 k l1 true ac ab)) = some r := H
  by_cases c6 : bf = true
  ·subst c6; have H1 : ((spec_NetOk.f k ac l1).bind fun aK => (spec_PairOk.j0 k l1 (!aK) ac ab)) = some r := by rw [if_pos rfl] at H; exact H
   clear H; have H := H1; clear H1; obtain ⟨aK, A7, H⟩ := G.bi H; replace H : (spec_PairOk.j0 k l1 (!aK) ac ab) = some r := H; have H' := G.m H; clear H; have ⟨eA, eB, eC, eD⟩ := G.d2 (w := w4) ae
   go_wp2_with (first | ((with_reducible refine G.f 14 rfl ?_); refine G.gL 9 Try.func14 #[.agg #[.int .i64 ac, .slice ao ab.length al]] ?_; (with_reducible refine (spec_NetOk.calls k ac _ _ ab true _ ?side1 ?side2 A5.out).mono ?_); (case side1 => exact G.cC (Kd.C_below aF.out HB.out)); (case side2 => exact aQ.out); rintro e w9 ⟨rfl, hb⟩; refine ⟨_, rfl, ?_⟩; have n0 := G.bb ae hb; have n1 := G.bs HB hb; clear ae HB; revert n0 n1; intro ae HB; (try clear hb); have ⟨dk, dl, dn, dp⟩ := G.d2 (w := w9) ae) | (go_at_call 14; (with_reducible refine (spec_NetOk.calls k ac _ _ l1 aK _ ?side1 ?side2 A7.out).mono ?_); (case side1 => exact G.cC (Kd.C_below bC.out HB.out)); (case side2 => exact ey.out); rintro e ev ⟨rfl, hb⟩; have n0 := G.bb ae hb; have n1 := G.bs HB hb; clear ae HB; revert n0 n1; intro ae HB; (try clear hb)))
   go_meet
   case rel => exact ⟨_, (!aK), (caal), H', ⟨by first | omega | exact Nat.le_refl _⟩, ⟨G.cb ae.out⟩, ⟨G.cB HB.out⟩⟩
  ·replace c6 := Bool.eq_false_iff.mpr c6; subst c6; have H1 : (spec_PairOk.j0 k l1 true ac ab) = some r := by rw [if_neg (show ¬ (false = true) by decide)] at H; exact H
   clear H; have H := H1; clear H1; have H' := G.m H; clear H; have ⟨b3, b4, b5, b6⟩ := G.d2 (w := w4) ae
   go_wp2_with (first | ((with_reducible refine G.f 14 rfl ?_); refine G.gL 9 Try.func14 #[.agg #[.int .i64 ac, .slice ao ab.length al]] ?_; (with_reducible refine (spec_NetOk.calls k ac _ _ ab false _ ?side1 ?side2 A5.out).mono ?_); (case side1 => exact G.cC (Kd.C_below aF.out HB.out)); (case side2 => exact aQ.out); rintro e ew ⟨rfl, hb⟩; refine ⟨_, rfl, ?_⟩; have n0 := G.bb ae hb; have n1 := G.bs HB hb; clear ae HB; revert n0 n1; intro ae HB; (try clear hb)))
   go_meet
   case rel => exact ⟨_, (true), (caal), H', ⟨by first | omega | exact Nat.le_refl _⟩, ⟨G.cb ae.out⟩, ⟨G.cB HB.out⟩⟩
 case rest =>
  clear cg; obtain ⟨kq, bj, rfl, HA, cL, ae, HB⟩ := hcut; cases kq with
  | zero => exact absurd HA.out (by simp [spec_PairOk.j0])
  | succ bQ =>
   have H := HA.out; clear HA; simp only [spec_PairOk.j0] at H
   by_cases bD : bj = true
   ·subst bD; have H1 : (some false) = some r := by rw [if_pos rfl] at H; exact H
    clear H; have H := H1; clear H1; obtain rfl := Option.some.inj H
    go_wp2
    go_ret
    exact ⟨caan, G.cB HB.out⟩
   ·replace bD := Bool.eq_false_iff.mpr bD; subst bD; have H1 : (if 0 ≤ ac then (if (ac : Int).toNat ≤ 281474976710656 then (spec_PairOk.l0 bQ l1 (List.replicate (ac : Int).toNat false) 0 ac ab) else (none)) else (none)) = some r := by rw [if_neg (show ¬ (false = true) by decide)] at H; exact H
    clear H; have H := H1; clear H1
    by_cases bE : 0 ≤ ac
    ·rw [if_pos bE] at H; have cy := eq_true bE; have cz : decide (0 ≤ ac) = true := decide_eq_true bE; clear bE
     by_cases bF : (ac : Int).toNat ≤ 281474976710656
     ·rw [if_pos bF] at H; have cA := eq_true bF; have cD : decide ((ac : Int).toNat ≤ 281474976710656) = true := decide_eq_true bF; clear bF; obtain ⟨ch, a_⟩ : ∃ y_ : List Bool, y_ = (List.replicate (ac : Int).toNat false) := ⟨_, rfl⟩; replace H : (spec_PairOk.l0 bQ l1 ch 0 ac ab) = some r := by first | (rw [a_]; with_reducible exact H) | (have aS := (Option.bind_some _ _).symm.trans H; rw [a_]; with_reducible exact aS) | (have aS := (Option.bind_some _ _).symm.trans H; with_reducible exact aS) | with_reducible exact H | (rw [a_]; exact H) | exact H
      have bR := G.m a_; clear a_; have H' := G.m H; clear H; have ⟨b7, b8, b9, ca⟩ := G.d2 (w := wc) ae
      go_wp2_with (first | ((with_reducible refine G.h 21 rfl ?_); refine Kd.R_make Kd.bool _ 4 rfl (N := 21) rfl 43 _ _ rfl ac rfl rfl Try.underlying43 (.bool false) 1 info4 rfl (by decide) (by omega) false (ok := fun _ => True) (okp := fun _ => True) rfl (fun _ hk => hk) trivial (of_decide_eq_true (G.asm)) (Nat.le_trans (Nat.mul_le_mul_right _ (of_decide_eq_true (G.asm) : ac.toNat ≤ 281474976710656)) (by omega)) (Below.refl _ _) (Nat.le_refl _) ?_; intro cZ fk bm hb hg_ hnew_; clear hg_ hnew_; (first | rw [← bR.out] at bm | (simp only [Int.reduceToNat] at bm; rw [← bR.out] at bm)); have n0 := G.m (Kd.R_lower bm (below_size (G.cB HB.out))); have n1 := G.bb ae hb; have n2 := G.bs HB hb; clear ae HB; revert n0 n1 n2; intro cE ae HB; clear hb bm))
      go_loopg [6] bQ (fun kq v6 w' => ∃ (ah : List Bool) (aa : Int), v6 = .int .i64 aa ∧ Aside0 (spec_PairOk.l0 kq l1 ah aa ac ab = some r) ∧ Aside0 (kq ≤ bQ) ∧ Aside0 (Kd.R Kd.bool 4 w' w.heap.size (fun _ => True) cZ ah) ∧ Aside0 (w'.heap[am]? = some (.cells #[.int .i64 ac, (.slice ao ab.length al)] 30 (0, 0))) ∧ Aside0 (Below w.heap.size w w'))
      case atStart => exact ⟨(ch), (0), (caal), H', ⟨Nat.le_refl _⟩, ⟨G.cR cE.out⟩, ⟨G.cb ae.out⟩, ⟨G.cB HB.out⟩⟩
      case round =>
       clear H'; (try clear bD cy cz cA cD b7 b8 b9 ca); obtain ⟨ah, aa, rfl, HA, cM, af, ae, HB⟩ := hrel; cases gk with
       | zero => exact absurd HA.out (by simp [spec_PairOk.l0])
       | succ k2 =>
        have H := HA.out; clear HA; simp only [spec_PairOk.l0] at H
        by_cases bo : aa < (l1.length : Int)
        ·rw [if_pos bo] at H; have cF : decide (aa < (l1.length : Int)) = true := decide_eq_true bo; clear bo
         by_cases bS : 0 ≤ aa
         ·rw [if_pos bS] at H; have eO : decide (0 ≤ aa) = true := decide_eq_true bS; clear bS; obtain ⟨bq, bT, H⟩ := G.bi H; replace H : (if bq = true then (if 0 ≤ ((rd_T40 l1 aa).f0) then (if ((rd_T40 l1 aa).f0) < (ah.length : Int) then (if rdOf false ah ((rd_T40 l1 aa).f0) = true then (some false) else (if 0 ≤ ((rd_T40 l1 aa).f1) then (if ((rd_T40 l1 aa).f1) < (ah.length : Int) then (if rdOf false ah ((rd_T40 l1 aa).f1) = true then (some false) else (spec_PairOk.l0 k2 l1 ((ah.set (((rd_T40 l1 aa).f0) : Int).toNat true).set (((rd_T40 l1 aa).f1) : Int).toNat true) (wrap64 (aa + 1)) ac ab)) else (none)) else (none))) else (none)) else (none)) else (some false)) = some r := H
          by_cases bU : bq = true
          ·subst bU; have H1 : (if 0 ≤ ((rd_T40 l1 aa).f0) then (if ((rd_T40 l1 aa).f0) < (ah.length : Int) then (if rdOf false ah ((rd_T40 l1 aa).f0) = true then (some false) else (if 0 ≤ ((rd_T40 l1 aa).f1) then (if ((rd_T40 l1 aa).f1) < (ah.length : Int) then (if rdOf false ah ((rd_T40 l1 aa).f1) = true then (some false) else (spec_PairOk.l0 k2 l1 ((ah.set (((rd_T40 l1 aa).f0) : Int).toNat true).set (((rd_T40 l1 aa).f1) : Int).toNat true) (wrap64 (aa + 1)) ac ab)) else (none)) else (none))) else (none)) else (none)) = some r := by rw [if_pos rfl] at H; exact H
           clear H; have H := H1; clear H1
           by_cases bV : 0 ≤ ((rd_T40 l1 aa).f0)
           ·rw [if_pos bV] at H; have eP : decide (0 ≤ ((rd_T40 l1 aa).f0)) = true := decide_eq_true bV; clear bV
            by_cases bW : ((rd_T40 l1 aa).f0) < (ah.length : Int)
            ·rw [if_pos bW] at H; have eQ : decide (((rd_T40 l1 aa).f0) < (ah.length : Int)) = true := decide_eq_true bW; clear bW; obtain ⟨ci, br⟩ : ∃ b_ : Bool, b_ = (rdOf false ah ((rd_T40 l1 aa).f0)) := ⟨_, rfl⟩; replace H : (if ci = true then (some false) else (if 0 ≤ ((rd_T40 l1 aa).f1) then (if ((rd_T40 l1 aa).f1) < (ah.length : Int) then (if rdOf false ah ((rd_T40 l1 aa).f1) = true then (some false) else (spec_PairOk.l0 k2 l1 ((ah.set (((rd_T40 l1 aa).f0) : Int).toNat true).set (((rd_T40 l1 aa).f1) : Int).toNat true) (wrap64 (aa + 1)) ac ab)) else (none)) else (none))) = some r := by rw [← br] at H; exact H
             have ba := G.m br; clear br
             by_cases bX : ci = true
             ·subst bX; have H1 : (some false) = some r := by rw [if_pos rfl] at H; exact H
              clear H; have H := H1; clear H1; obtain rfl := Option.some.inj H; have az : 0 ≤ (aa : Int) := of_decide_eq_true (G.asm); have aA : aa < (l1.length : Int) := of_decide_eq_true (G.asm); obtain ⟨bu, aX, au, av⟩ := at_T40 bC.out aa az aA; cases aX; replace au := G.hx HB au; replace av := G.hx HB av; replace az := eq_true az; replace aA := eq_true aA
              go_wp2_with (first | ((with_reducible refine G.h 7 rfl ?_); refine G.be 7 #[.int .i64 0, .int .i64 0] 40 ?_; intro ak hg cN hbox hb; have n0 := G.rb af hb; have n1 := G.bb ae hb; have n2 := G.bs HB hb; have n3 := G.m (hbox); have n4 := G.m (caam : w.heap.size ≤ ak); have n5 := G.m (caam : w.heap.size ≤ ak); have n6 := G.m (caar : am ≠ ak); have n7 := G.m (caas : ak ≠ am); clear af ae HB; revert n0 n1 n2 n3 n4 n5 n6 n7; intro af ae HB ai bv bw aq aw; clear hb hbox hg; have eR := aw.out; have eS := aq.out; have ⟨dq, dr, dt, du⟩ := G.d2 (w := cN) ai; have ⟨dv, dw, dx, dy⟩ := G.d2 (w := cN) ae) | ((with_reducible refine G.f 15 rfl ?_); refine G.gL 37 Try.func15 #[.agg #[.int .i64 ac, .slice ao ab.length al], .int .i64 ((rd_T40 l1 aa).f0), .int .i64 ((rd_T40 l1 aa).f1)] ?_; (with_reducible refine (spec_l1Has.calls k2 ac _ _ ab ((rd_T40 l1 aa).f0) ((rd_T40 l1 aa).f1) true _ ?side1 ?side2 bT.out).mono ?_); (case side1 => exact Kd.C_below aF.out (G.cB HB.out)); (case side2 => exact aQ.out); rintro e eE ⟨rfl, hb⟩; refine ⟨_, rfl, ?_⟩; have n0 := G.m (Kd.R_below (caaq) hb); have n1 := G.m (blk_below (g := am) (o := .cells #[.int .i64 ac, .slice ao ab.length al] 30 (0, 0)) (caap) hb); have n2 := G.m (blk_below (g := ak) (o := .cells #[.int .i64 ((rd_T40 l1 aa).f0), .int .i64 ((rd_T40 l1 aa).f1)] 40 (0, 0)) (caao) hb); have n3 := G.bs HB hb; clear af ae ai HB; revert n0 n1 n2 n3; intro af ae ai HB; (try clear hb); have ⟨dz, dA, dB, dC⟩ := G.d2 (w := eE) ai; obtain ⟨e9, fa, c_⟩ := Kd.R_slice af.out; subst c_; have aL : 0 ≤ (((rd_T40 l1 aa).f0) : Int) := of_decide_eq_true (G.asm); have aM : ((rd_T40 l1 aa).f0) < (ah.length : Int) := of_decide_eq_true (G.asm); obtain ⟨bk, bn, aC⟩ := Kd.at_bool (Kd.R_reads' af.out).2.2 ((rd_T40 l1 aa).f0) aL aM; (try rw [← ba.out] at aC); cases bn; replace aL := eq_true aL; replace aM := eq_true aM))
              go_ret
              exact ⟨caan, G.cB HB.out⟩
             ·replace bX := Bool.eq_false_iff.mpr bX; subst bX; have H1 : (if 0 ≤ ((rd_T40 l1 aa).f1) then (if ((rd_T40 l1 aa).f1) < (ah.length : Int) then (if rdOf false ah ((rd_T40 l1 aa).f1) = true then (some false) else (spec_PairOk.l0 k2 l1 ((ah.set (((rd_T40 l1 aa).f0) : Int).toNat true).set (((rd_T40 l1 aa).f1) : Int).toNat true) (wrap64 (aa + 1)) ac ab)) else (none)) else (none)) = some r := by rw [if_neg (show ¬ (false = true) by decide)] at H; exact H
              clear H; have H := H1; clear H1
              by_cases bY : 0 ≤ ((rd_T40 l1 aa).f1)
              ·rw [if_pos bY] at H; have eT : decide (0 ≤ ((rd_T40 l1 aa).f1)) = true := decide_eq_true bY; clear bY
               by_cases bZ : ((rd_T40 l1 aa).f1) < (ah.length : Int)
               ·rw [if_pos bZ] at H; have eU : decide (((rd_T40 l1 aa).f1) < (ah.length : Int)) = true := decide_eq_true bZ; clear bZ; obtain ⟨cj, bx⟩ : ∃ b_ : Bool, b_ = (rdOf false ah ((rd_T40 l1 aa).f1)) := ⟨_, rfl⟩; replace H : (if cj = true then (some false) else (spec_PairOk.l0 k2 l1 ((ah.set (((rd_T40 l1 aa).f0) : Int).toNat true).set (((rd_T40 l1 aa).f1) : Int).toNat true) (wrap64 (aa + 1)) ac ab)) = some r := by rw [← bx] at H; exact H
                have bl := G.m bx; clear bx
                by_cases b1 : cj = true
                ·subst b1; have H1 : (some false) = some r := by rw [if_pos rfl] at H; exact H
                 clear H; have H := H1; clear H1; obtain rfl := Option.some.inj H; have az : 0 ≤ (aa : Int) := of_decide_eq_true (G.asm); have aA : aa < (l1.length : Int) := of_decide_eq_true (G.asm); obtain ⟨bu, aX, au, av⟩ := at_T40 bC.out aa az aA; cases aX; replace au := G.hx HB au; replace av := G.hx HB av; replace az := eq_true az; replace aA := eq_true aA
                 go_wp2_with (first | ((with_reducible refine G.h 7 rfl ?_); refine G.be 7 #[.int .i64 0, .int .i64 0] 40 ?_; intro ak hg cO hbox hb; have n0 := G.rb af hb; have n1 := G.bb ae hb; have n2 := G.bs HB hb; have n3 := G.m (hbox); have n4 := G.m (caam : w.heap.size ≤ ak); have n5 := G.m (caam : w.heap.size ≤ ak); have n6 := G.m (caar : am ≠ ak); have n7 := G.m (caas : ak ≠ am); clear af ae HB; revert n0 n1 n2 n3 n4 n5 n6 n7; intro af ae HB ai bv bw aq aw; clear hb hbox hg; have eV := aw.out; have eW := aq.out; have ⟨dD, dE, dF, dG⟩ := G.d2 (w := cO) ai; have ⟨dH, dI, dJ, dK⟩ := G.d2 (w := cO) ae) | ((with_reducible refine G.f 15 rfl ?_); refine G.gL 37 Try.func15 #[.agg #[.int .i64 ac, .slice ao ab.length al], .int .i64 ((rd_T40 l1 aa).f0), .int .i64 ((rd_T40 l1 aa).f1)] ?_; (with_reducible refine (spec_l1Has.calls k2 ac _ _ ab ((rd_T40 l1 aa).f0) ((rd_T40 l1 aa).f1) true _ ?side1 ?side2 bT.out).mono ?_); (case side1 => exact Kd.C_below aF.out (G.cB HB.out)); (case side2 => exact aQ.out); rintro e eF ⟨rfl, hb⟩; refine ⟨_, rfl, ?_⟩; have n0 := G.m (Kd.R_below (caaq) hb); have n1 := G.m (blk_below (g := am) (o := .cells #[.int .i64 ac, .slice ao ab.length al] 30 (0, 0)) (caap) hb); have n2 := G.m (blk_below (g := ak) (o := .cells #[.int .i64 ((rd_T40 l1 aa).f0), .int .i64 ((rd_T40 l1 aa).f1)] 40 (0, 0)) (caao) hb); have n3 := G.bs HB hb; clear af ae ai HB; revert n0 n1 n2 n3; intro af ae ai HB; (try clear hb); have ⟨dL, dM, dN, dO⟩ := G.d2 (w := eF) ai; obtain ⟨fb, fc, da⟩ := Kd.R_slice af.out; subst da; have aL : 0 ≤ (((rd_T40 l1 aa).f0) : Int) := of_decide_eq_true (G.asm); have aM : ((rd_T40 l1 aa).f0) < (ah.length : Int) := of_decide_eq_true (G.asm); obtain ⟨bk, bn, aC⟩ := Kd.at_bool (Kd.R_reads' af.out).2.2 ((rd_T40 l1 aa).f0) aL aM; (try rw [← ba.out] at aC); (try rw [← bl.out] at aC); cases bn; replace aL := eq_true aL; replace aM := eq_true aM; have aY : 0 ≤ (((rd_T40 l1 aa).f1) : Int) := of_decide_eq_true (G.asm); have aZ : ((rd_T40 l1 aa).f1) < (ah.length : Int) := of_decide_eq_true (G.asm); obtain ⟨bz, bJ, aH⟩ := Kd.at_bool (Kd.R_reads' af.out).2.2 ((rd_T40 l1 aa).f1) aY aZ; (try rw [← ba.out] at aH); (try rw [← bl.out] at aH); obtain rfl : bk = bz := (by injection bJ); replace aY := eq_true aY; replace aZ := eq_true aZ))
                 go_ret
                 exact ⟨caan, G.cB HB.out⟩
                ·replace b1 := Bool.eq_false_iff.mpr b1; subst b1; have H1 : (spec_PairOk.l0 k2 l1 ((ah.set (((rd_T40 l1 aa).f0) : Int).toNat true).set (((rd_T40 l1 aa).f1) : Int).toNat true) (wrap64 (aa + 1)) ac ab) = some r := by rw [if_neg (show ¬ (false = true) by decide)] at H; exact H
                 clear H; have H := H1; clear H1; obtain ⟨bK, bc⟩ : ∃ y_ : List Bool, y_ = (ah.set (((rd_T40 l1 aa).f0) : Int).toNat true) := ⟨_, rfl⟩; replace H : (spec_PairOk.l0 k2 l1 (bK.set (((rd_T40 l1 aa).f1) : Int).toNat true) (wrap64 (aa + 1)) ac ab) = some r := by first | (rw [bc]; with_reducible exact H) | (have aS := (Option.bind_some _ _).symm.trans H; rw [bc]; with_reducible exact aS) | (have aS := (Option.bind_some _ _).symm.trans H; with_reducible exact aS) | with_reducible exact H | (rw [bc]; exact H) | exact H
                 have cG := G.m bc; clear bc; obtain ⟨bL, bd⟩ : ∃ y_ : List Bool, y_ = (bK.set (((rd_T40 l1 aa).f1) : Int).toNat true) := ⟨_, rfl⟩; replace H : (spec_PairOk.l0 k2 l1 bL (wrap64 (aa + 1)) ac ab) = some r := by first | (rw [bd]; with_reducible exact H) | (have aS := (Option.bind_some _ _).symm.trans H; rw [bd]; with_reducible exact aS) | (have aS := (Option.bind_some _ _).symm.trans H; with_reducible exact aS) | with_reducible exact H | (rw [bd]; exact H) | exact H
                 have cH := G.m bd; clear bd; have H' := G.m H; clear H; have az : 0 ≤ (aa : Int) := of_decide_eq_true (G.asm); have aA : aa < (l1.length : Int) := of_decide_eq_true (G.asm); obtain ⟨bu, aX, au, av⟩ := at_T40 bC.out aa az aA; cases aX; replace au := G.hx HB au; replace av := G.hx HB av; replace az := eq_true az; replace aA := eq_true aA
                 go_wp2_with (first | ((with_reducible refine G.h 7 rfl ?_); refine G.be 7 #[.int .i64 0, .int .i64 0] 40 ?_; intro ak hg cP hbox hb; have n0 := G.rb af hb; have n1 := G.bb ae hb; have n2 := G.bs HB hb; have n3 := G.m (hbox); have n4 := G.m (caam : w.heap.size ≤ ak); have n5 := G.m (caam : w.heap.size ≤ ak); have n6 := G.m (caar : am ≠ ak); have n7 := G.m (caas : ak ≠ am); clear af ae HB; revert n0 n1 n2 n3 n4 n5 n6 n7; intro af ae HB ai bv bw aq aw; clear hb hbox hg; have eX := aw.out; have eY := aq.out; have ⟨dP, dQ, dR, dS⟩ := G.d2 (w := cP) ai; have ⟨dT, dU, dV, dW⟩ := G.d2 (w := cP) ae) | ((with_reducible refine G.f 15 rfl ?_); refine G.gL 37 Try.func15 #[.agg #[.int .i64 ac, .slice ao ab.length al], .int .i64 ((rd_T40 l1 aa).f0), .int .i64 ((rd_T40 l1 aa).f1)] ?_; (with_reducible refine (spec_l1Has.calls k2 ac _ _ ab ((rd_T40 l1 aa).f0) ((rd_T40 l1 aa).f1) true _ ?side1 ?side2 bT.out).mono ?_); (case side1 => exact Kd.C_below aF.out (G.cB HB.out)); (case side2 => exact aQ.out); rintro e ck ⟨rfl, hb⟩; refine ⟨_, rfl, ?_⟩; have n0 := G.m (Kd.R_below (caaq) hb); have n1 := G.m (blk_below (g := am) (o := .cells #[.int .i64 ac, .slice ao ab.length al] 30 (0, 0)) (caap) hb); have n2 := G.m (blk_below (g := ak) (o := .cells #[.int .i64 ((rd_T40 l1 aa).f0), .int .i64 ((rd_T40 l1 aa).f1)] 40 (0, 0)) (caao) hb); have n3 := G.bs HB hb; clear af ae ai HB; revert n0 n1 n2 n3; intro af ae ai HB; (try clear hb); have ⟨dX, dY, dZ, d7⟩ := G.d2 (w := ck) ai; obtain ⟨fd, cl, db⟩ := Kd.R_slice af.out; subst db; have aL : 0 ≤ (((rd_T40 l1 aa).f0) : Int) := of_decide_eq_true (G.asm); have aM : ((rd_T40 l1 aa).f0) < (ah.length : Int) := of_decide_eq_true (G.asm); obtain ⟨bk, bn, aC⟩ := Kd.at_bool (Kd.R_reads' af.out).2.2 ((rd_T40 l1 aa).f0) aL aM; (try rw [← ba.out] at aC); (try rw [← bl.out] at aC); cases bn; replace aL := eq_true aL; replace aM := eq_true aM; have aY : 0 ≤ (((rd_T40 l1 aa).f1) : Int) := of_decide_eq_true (G.asm); have aZ : ((rd_T40 l1 aa).f1) < (ah.length : Int) := of_decide_eq_true (G.asm); obtain ⟨bz, bJ, aH⟩ := Kd.at_bool (Kd.R_reads' af.out).2.2 ((rd_T40 l1 aa).f1) aY aZ; (try rw [← ba.out] at aH); (try rw [← bl.out] at aH); obtain rfl : bk = bz := (by injection bJ); replace aY := eq_true aY; replace aZ := eq_true aZ; have cm : 0 ≤ (((rd_T40 l1 aa).f0) : Int) := of_decide_eq_true (G.asm); have cn : (((rd_T40 l1 aa).f0) : Int) < ((ah.length : Int) : Int) := of_decide_eq_true (G.asm); obtain ⟨bh, fe, co, cp, dc, ff, cq⟩ := Kd.R_form af.out (by omega); (first | cases co | (injection co with ea_ en_ ec_; (first | subst ea_ | (injection ea_ with ea_; subst ea_)); subst ec_; clear en_)); have cr := G.m cp; have fg := G.m cq; clear cp dc cq; (first | simp only [add_plain] at aC | skip); (first | simp only [add_plain] at aH | skip); obtain ⟨eG, eH⟩ := Kd.R_celln false af.out (((rd_T40 l1 aa).f0) : Int) cm cn; replace cm := eq_true cm; replace cn := eq_true cn; obtain ⟨eZ, e2⟩ := Kd.R_celln false af.out (((rd_T40 l1 aa).f0) : Int) (of_decide_eq_true (G.asm)) (of_decide_eq_true (G.asm)); have bM := Kd.R_putg af.out (((rd_T40 l1 aa).f0) : Int) true) | ((with_reducible refine gate_store (t := 4) (p := 56) rfl ?_); refine store_event (t := 4) (p := 56) (v := ?vo_w56) (w1 := (ck.setCell ⟨bh, (((rd_T40 l1 aa).f0) : Int).toNat, none⟩ (.bool true))) ?hg ?ho ?hn ?hr ?_; (case ho => rfl); (case hg => rfl); (case hn => rfl); (case hr => first | (go_simp; done) | (go_simp; rfl)); intro bp hw; have hg : ck.grownBy bp (some bh) := (by rw [hw]; exact bM.2); have hp_ : Kd.R Kd.bool 4 bp w.heap.size (fun _ => True) (.slice (some ⟨bh, 0, none⟩) ah.length cl) bK := (by rw [hw, cG.out]; exact bM.1); clear bM; have n0 := G.m (hp_); have n1 := G.bg ae hg (Kd.R_ne af.out ae.out (by decide)); have n2 := G.bg ai hg (Kd.R_ne af.out ai.out (by decide)); have n3 := G.m ((by rw [hw]; exact below_set (HB.out) cr.out : Below w.heap.size w bp)); clear af ae ai HB; revert n0 n1 n2 n3; intro af ae ai HB; clear hg hw hp_; have ⟨d8, d9, d_, ea⟩ := G.d2 (w := bp) ai; have ct : 0 ≤ (((rd_T40 l1 aa).f1) : Int) := of_decide_eq_true (G.asm); have cu : (((rd_T40 l1 aa).f1) : Int) < ((ah.length : Int) : Int) := of_decide_eq_true (G.asm); obtain ⟨eI, eJ⟩ := Kd.R_celln false af.out (((rd_T40 l1 aa).f1) : Int) ct cu; replace ct := eq_true ct; replace cu := eq_true cu; obtain ⟨e3, e4⟩ := Kd.R_celln false af.out (((rd_T40 l1 aa).f1) : Int) (of_decide_eq_true (G.asm)) (of_decide_eq_true (G.asm)); have bN := Kd.R_putg af.out (((rd_T40 l1 aa).f1) : Int) true) | ((with_reducible refine gate_store (t := 4) (p := 60) rfl ?_); refine store_event (t := 4) (p := 60) (v := ?vo_w59) (w1 := (bp.setCell ⟨bh, (((rd_T40 l1 aa).f1) : Int).toNat, none⟩ (.bool true))) ?hg ?ho ?hn ?hr ?_; (case ho => rfl); (case hg => rfl); (case hn => rfl); (case hr => first | (go_simp; done) | (go_simp; rfl)); intro cv hw; have hg : bp.grownBy cv (some bh) := (by rw [hw]; exact bN.2); have hp_ : Kd.R Kd.bool 4 cv w.heap.size (fun _ => True) (.slice (some ⟨bh, 0, none⟩) ah.length cl) bL := (by rw [hw, cH.out]; exact bN.1); clear bN; have n0 := G.m (hp_); have n1 := G.bg ae hg (Kd.R_ne af.out ae.out (by decide)); have n2 := G.bg ai hg (Kd.R_ne af.out ai.out (by decide)); have n3 := G.m ((by rw [hw]; exact below_set (HB.out) cr.out : Below w.heap.size w cv)); clear af ae ai HB; revert n0 n1 n2 n3; intro af ae ai HB; clear hg hw hp_))
                 go_roundg k2
                 case measure => have := cL.out; have := cM.out; omega
                 case rel => exact ⟨(bL), (wrap64 (aa + 1)), (caal), H', ⟨by have := cL.out; have := cM.out; omega⟩, ⟨G.cR af.out⟩, ⟨G.cb ae.out⟩, ⟨G.cB HB.out⟩⟩
               ·rw [if_neg bZ] at H; exact absurd H (by simp)
              ·rw [if_neg bY] at H; exact absurd H (by simp)
            ·rw [if_neg bW] at H; exact absurd H (by simp)
           ·rw [if_neg bV] at H; exact absurd H (by simp)
          ·replace bU := Bool.eq_false_iff.mpr bU; subst bU; have H1 : (some false) = some r := by rw [if_neg (show ¬ (false = true) by decide)] at H; exact H
           clear H; have H := H1; clear H1; obtain rfl := Option.some.inj H; have az : 0 ≤ (aa : Int) := of_decide_eq_true (G.asm); have aA : aa < (l1.length : Int) := of_decide_eq_true (G.asm); obtain ⟨bu, aX, au, av⟩ := at_T40 bC.out aa az aA; cases aX; replace au := G.hx HB au; replace av := G.hx HB av; replace az := eq_true az; replace aA := eq_true aA
           go_wp2_with (first | ((with_reducible refine G.h 7 rfl ?_); refine G.be 7 #[.int .i64 0, .int .i64 0] 40 ?_; intro ak hg cQ hbox hb; have n0 := G.rb af hb; have n1 := G.bb ae hb; have n2 := G.bs HB hb; have n3 := G.m (hbox); have n4 := G.m (caam : w.heap.size ≤ ak); have n5 := G.m (caam : w.heap.size ≤ ak); have n6 := G.m (caar : am ≠ ak); have n7 := G.m (caas : ak ≠ am); clear af ae HB; revert n0 n1 n2 n3 n4 n5 n6 n7; intro af ae HB ai bv bw aq aw; clear hb hbox hg; have e5 := aw.out; have e6 := aq.out; have ⟨eb, ec, ed, ee⟩ := G.d2 (w := cQ) ai; have ⟨ef, eg, eh, ei⟩ := G.d2 (w := cQ) ae) | ((with_reducible refine G.f 15 rfl ?_); refine G.gL 37 Try.func15 #[.agg #[.int .i64 ac, .slice ao ab.length al], .int .i64 ((rd_T40 l1 aa).f0), .int .i64 ((rd_T40 l1 aa).f1)] ?_; (with_reducible refine (spec_l1Has.calls k2 ac _ _ ab ((rd_T40 l1 aa).f0) ((rd_T40 l1 aa).f1) false _ ?side1 ?side2 bT.out).mono ?_); (case side1 => exact Kd.C_below aF.out (G.cB HB.out)); (case side2 => exact aQ.out); rintro e fm ⟨rfl, hb⟩; refine ⟨_, rfl, ?_⟩; have n0 := G.m (Kd.R_below (caaq) hb); have n1 := G.m (blk_below (g := am) (o := .cells #[.int .i64 ac, .slice ao ab.length al] 30 (0, 0)) (caap) hb); have n2 := G.m (blk_below (g := ak) (o := .cells #[.int .i64 ((rd_T40 l1 aa).f0), .int .i64 ((rd_T40 l1 aa).f1)] 40 (0, 0)) (caao) hb); have n3 := G.bs HB hb; clear af ae ai HB; revert n0 n1 n2 n3; intro af ae ai HB; (try clear hb)))
           go_ret
           exact ⟨caan, G.cB HB.out⟩
         ·rw [if_neg bS] at H; exact absurd H (by simp)
        ·rw [if_neg bo] at H; have cF : decide (aa < (l1.length : Int)) = false := decide_eq_false bo; clear bo; obtain rfl := Option.some.inj H
         go_wp2
         go_ret
         exact ⟨caan, G.cB HB.out⟩
     ·rw [if_neg bF] at H; exact absurd H (by simp)
    ·rw [if_neg bE] at H; exact absurd H (by simp)

/-! ### cmp_Or_int: function 41 -/
def cmp_Or_int.l0 : Nat → Int → List Int → Int → Int → Option (Int)
 | 0, _, _, _, _ => none
 | k + 1, x3, x6, x7, x8 => if x8 < x7 then (if 0 ≤ x8 then (if x8 < (x6.length : Int) then (if (rd x6 x8) = x3 then (cmp_Or_int.l0 k x3 x6 x7 (wrap64 (x8 + 1))) else (some (rd x6 x8))) else (none)) else (none)) else (some x3)
def cmp_Or_int.f (k : Nat) (l0 : List Int) : Option (Int) := cmp_Or_int.l0 k 0 l0 (l0.length : Int) 0
theorem cmp_Or_int.mono_l : ∀ k, (∀ y0 y1 y2 y3, LeO (cmp_Or_int.l0 k y0 y1 y2 y3) (cmp_Or_int.l0 (k + 1) y0 y1 y2 y3))
 | 0 => fun _ _ _ _ r h => by simp [cmp_Or_int.l0] at h
 | k + 1 => by
  have aE := cmp_Or_int.mono_l k
  ·intro y0 y1 y2 y3; unfold cmp_Or_int.l0
   repeat' first
   | (with_reducible exact aE _ _ _ _)
   | (with_reducible exact LeO.refl _)
   | (with_reducible exact LeO.none _)
   | (with_reducible refine LeO.ite ?_ ?_)
   | (with_reducible refine LeO.bind ?_ (fun _ => ?_))
   | exact aE _ _ _ _
   | exact LeO.none _
   | refine LeO.ite ?_ ?_
   | refine LeO.bind ?_ (fun _ => ?_)
theorem cmp_Or_int.mono : ∀ a0 k, LeO (cmp_Or_int.f k a0) (cmp_Or_int.f (k + 1) a0) := by
 intro a0 k; have aE := cmp_Or_int.mono_l k; unfold cmp_Or_int.f
 repeat' first | (with_reducible first | exact aE _ _ _ _ | exact LeO.refl _ | exact LeO.none _ | refine LeO.ite ?_ ?_ | refine LeO.bind ?_ (fun _ => ?_)) | exact aE _ _ _ _ | exact LeO.none _ | refine LeO.ite ?_ ?_ | refine LeO.bind ?_ (fun _ => ?_)
set_option maxHeartbeats 8000000 in
set_option maxRecDepth 100000 in
theorem cmp_Or_int.calls (k : Nat) (A0 : Option Addr) (c0 : Nat) (l0 : List Int) (r : Int) (w : World) (cS : Kd.C (Kd.int .i64) w A0 l0.length l0) (cT : l0.length ≤ c0) (h : cmp_Or_int.f k l0 = some r) :
  Calls Try.prog 41 #[.slice A0 l0.length c0] w fun e w' => e = .returned (.int .i64 r) ∧ Drawn0 w w' := by
 have cU := G.m cS; have fo := G.m cT; clear cS cT; have H : (cmp_Or_int.l0 k 0 l0 (l0.length : Int) 0) = some r := h; clear h; have H' := G.m H; clear H
 go_enter Try.func41, Try.ntmps41
 go_wp2
 go_loopg [8] k (fun kq v8 w' => ∃ (ap : Int), v8 = .int .i64 ap ∧ Aside0 (cmp_Or_int.l0 kq 0 l0 (l0.length : Int) ap = some r) ∧ Aside0 (kq ≤ k) ∧ Drawn0 w w')
 case atStart => exact ⟨(0), (caal), H', ⟨Nat.le_refl _⟩, by repeat (first | exact Drawn0.refl _ | apply Drawn0.step)⟩
 case round =>
  clear H'; obtain ⟨ap, rfl, HA, bA, ⟨m1, rfl⟩⟩ := hrel; cases gk with
  | zero => exact absurd HA.out (by simp [cmp_Or_int.l0])
  | succ k1 =>
   have H := HA.out; clear HA; simp only [cmp_Or_int.l0] at H
   by_cases c2 : ap < (l0.length : Int)
   ·rw [if_pos c2] at H; have dd : decide (ap < (l0.length : Int)) = true := decide_eq_true c2; clear c2
    by_cases c3 : 0 ≤ ap
    ·rw [if_pos c3] at H; have cf : decide (0 ≤ ap) = true := decide_eq_true c3; clear c3
     by_cases c4 : ap < (l0.length : Int)
     ·rw [if_pos c4] at H; have fh : decide (ap < (l0.length : Int)) = true := decide_eq_true c4; clear c4
      by_cases c5 : (rd l0 ap) = 0
      ·rw [if_pos c5] at H; have bG : ((rd l0 ap) == 0) = true := beq_iff_eq.mpr c5; have de : ((rd l0 ap) != 0) = false := bne_eq_false_iff_eq.mpr c5; clear c5; have H' := G.m H; clear H; have a4 : 0 ≤ (ap : Int) := of_decide_eq_true (G.asm); have a5 : ap < (l0.length : Int) := of_decide_eq_true (G.asm); obtain ⟨cI, bO, cd⟩ := Kd.at_int cU.out ap a4 a5; cases bO; replace a4 := eq_true a4; replace a5 := eq_true a5
       go_wp2
       go_roundg k1
       case measure => have := bA.out; omega
       case rel => exact ⟨(wrap64 (ap + 1)), (caal), H', ⟨by have := bA.out; omega⟩, by repeat (first | exact Drawn0.refl _ | apply Drawn0.step)⟩
      ·rw [if_neg c5] at H; have bG : ((rd l0 ap) == 0) = false := beq_eq_false_iff_ne.mpr c5; have de : ((rd l0 ap) != 0) = true := bne_iff_ne.mpr c5; obtain rfl := Option.some.inj H; have a4 : 0 ≤ (ap : Int) := of_decide_eq_true (G.asm); have a5 : ap < (l0.length : Int) := of_decide_eq_true (G.asm); obtain ⟨cI, bO, cd⟩ := Kd.at_int cU.out ap a4 a5; cases bO; replace a4 := eq_true a4; replace a5 := eq_true a5
       go_wp2
       go_ret
       exact ⟨caal, by repeat (first | exact Drawn0.refl _ | apply Drawn0.step)⟩
     ·rw [if_neg c4] at H; exact absurd H (by simp)
    ·rw [if_neg c3] at H; exact absurd H (by simp)
   ·rw [if_neg c2] at H; have dd : decide (ap < (l0.length : Int)) = false := decide_eq_false c2; clear c2; obtain rfl := Option.some.inj H
    go_wp2
    go_ret
    exact ⟨caal, by repeat (first | exact Drawn0.refl _ | apply Drawn0.step)⟩

/-! ### cmp_isNaN_int: function 44 -/
def cmp_isNaN_int.f (a0 : Int) : Option (Bool) := some (a0 != a0)
set_option maxHeartbeats 8000000 in
set_option maxRecDepth 100000 in
theorem cmp_isNaN_int.calls (a0 : Int) (r : Bool) (w : World) (h : cmp_isNaN_int.f a0 = some r) :
  Calls Try.prog 44 #[.int .i64 a0] w fun e w' => e = .returned (.bool r) ∧ Drawn0 w w' := by
 have H : (some (a0 != a0)) = some r := h; clear h; obtain rfl := Option.some.inj H
 go_enter Try.func44, Try.ntmps44
 go_wp2
 go_ret
 exact ⟨caal, by repeat (first | exact Drawn0.refl _ | apply Drawn0.step)⟩

/-! ### cmp_Compare_int: function 42 -/
def cmp_Compare_int.f (a0 : Int) (a1 : Int) : Option (Int) := (cmp_isNaN_int.f a0).bind fun a6 => ((cmp_isNaN_int.f a1).bind fun aB => (if a6 = true then (if aB = true then (some 0) else (some (-1))) else (if aB = true then (some 1) else (if a0 < a1 then (some (-1)) else (if a0 > a1 then (some 1) else (some 0))))))
set_option maxHeartbeats 8000000 in
set_option maxRecDepth 100000 in
theorem cmp_Compare_int.calls (a0 : Int) (a1 : Int) (r : Int) (w : World) (h : cmp_Compare_int.f a0 a1 = some r) :
  Calls Try.prog 42 #[.int .i64 a0, .int .i64 a1] w fun e w' => e = .returned (.int .i64 r) ∧ Drawn0 w w' := by
 have H : ((cmp_isNaN_int.f a0).bind fun a6 => ((cmp_isNaN_int.f a1).bind fun aB => (if a6 = true then (if aB = true then (some 0) else (some (-1))) else (if aB = true then (some 1) else (if a0 < a1 then (some (-1)) else (if a0 > a1 then (some 1) else (some 0))))))) = some r := h; clear h; obtain ⟨a6, A3, H⟩ := G.bi H; replace H : ((cmp_isNaN_int.f a1).bind fun aB => (if a6 = true then (if aB = true then (some 0) else (some (-1))) else (if aB = true then (some 1) else (if a0 < a1 then (some (-1)) else (if a0 > a1 then (some 1) else (some 0)))))) = some r := H; obtain ⟨aB, A4, H⟩ := G.bi H; replace H : (if a6 = true then (if aB = true then (some 0) else (some (-1))) else (if aB = true then (some 1) else (if a0 < a1 then (some (-1)) else (if a0 > a1 then (some 1) else (some 0))))) = some r := H
 by_cases c5 : a6 = true
 ·subst c5; have H1 : (if aB = true then (some 0) else (some (-1))) = some r := by rw [if_pos rfl] at H; exact H
  clear H; have H := H1; clear H1
  by_cases c6 : aB = true
  ·subst c6; have H1 : (some 0) = some r := by rw [if_pos rfl] at H; exact H
   clear H; have H := H1; clear H1; obtain rfl := Option.some.inj H
   go_enter Try.func42, Try.ntmps42
   go_wp2_with (first | ((with_reducible refine G.f 44 rfl ?_); refine G.gL 8 Try.func44 #[.int .i64 a0] ?_; (with_reducible refine (cmp_isNaN_int.calls a0 true _ A3.out).mono ?_); rintro e w' ⟨rfl, ⟨nd, rfl⟩⟩; refine ⟨_, rfl, ?_⟩) | ((with_reducible refine G.f 44 rfl ?_); refine G.gL 10 Try.func44 #[.int .i64 a1] ?_; (with_reducible refine (cmp_isNaN_int.calls a1 true _ A4.out).mono ?_); rintro e w' ⟨rfl, ⟨nd, rfl⟩⟩; refine ⟨_, rfl, ?_⟩))
   go_ret
   exact ⟨caal, by repeat (first | exact Drawn0.refl _ | apply Drawn0.step)⟩
  ·replace c6 := Bool.eq_false_iff.mpr c6; subst c6; have H1 : (some (-1)) = some r := by rw [if_neg (show ¬ (false = true) by decide)] at H; exact H
   clear H; have H := H1; clear H1; obtain rfl := Option.some.inj H
   go_enter Try.func42, Try.ntmps42
   go_wp2_with (first | ((with_reducible refine G.f 44 rfl ?_); refine G.gL 8 Try.func44 #[.int .i64 a0] ?_; (with_reducible refine (cmp_isNaN_int.calls a0 true _ A3.out).mono ?_); rintro e w' ⟨rfl, ⟨nd, rfl⟩⟩; refine ⟨_, rfl, ?_⟩) | ((with_reducible refine G.f 44 rfl ?_); refine G.gL 10 Try.func44 #[.int .i64 a1] ?_; (with_reducible refine (cmp_isNaN_int.calls a1 false _ A4.out).mono ?_); rintro e w' ⟨rfl, ⟨nd, rfl⟩⟩; refine ⟨_, rfl, ?_⟩))
   go_ret
   exact ⟨caal, by repeat (first | exact Drawn0.refl _ | apply Drawn0.step)⟩
 ·replace c5 := Bool.eq_false_iff.mpr c5; subst c5; have H1 : (if aB = true then (some 1) else (if a0 < a1 then (some (-1)) else (if a0 > a1 then (some 1) else (some 0)))) = some r := by rw [if_neg (show ¬ (false = true) by decide)] at H; exact H
  clear H; have H := H1; clear H1
  by_cases c7 : aB = true
  ·subst c7; have H1 : (some 1) = some r := by rw [if_pos rfl] at H; exact H
   clear H; have H := H1; clear H1; obtain rfl := Option.some.inj H
   go_enter Try.func42, Try.ntmps42
   go_wp2_with (first | ((with_reducible refine G.f 44 rfl ?_); refine G.gL 8 Try.func44 #[.int .i64 a0] ?_; (with_reducible refine (cmp_isNaN_int.calls a0 false _ A3.out).mono ?_); rintro e w' ⟨rfl, ⟨nd, rfl⟩⟩; refine ⟨_, rfl, ?_⟩) | ((with_reducible refine G.f 44 rfl ?_); refine G.gL 10 Try.func44 #[.int .i64 a1] ?_; (with_reducible refine (cmp_isNaN_int.calls a1 true _ A4.out).mono ?_); rintro e w' ⟨rfl, ⟨nd, rfl⟩⟩; refine ⟨_, rfl, ?_⟩))
   go_ret
   exact ⟨caal, by repeat (first | exact Drawn0.refl _ | apply Drawn0.step)⟩
  ·replace c7 := Bool.eq_false_iff.mpr c7; subst c7; have H1 : (if a0 < a1 then (some (-1)) else (if a0 > a1 then (some 1) else (some 0))) = some r := by rw [if_neg (show ¬ (false = true) by decide)] at H; exact H
   clear H; have H := H1; clear H1
   by_cases c8 : a0 < a1
   ·rw [if_pos c8] at H; have bH : decide (a0 < a1) = true := decide_eq_true c8; clear c8; obtain rfl := Option.some.inj H
    go_enter Try.func42, Try.ntmps42
    go_wp2_with (first | ((with_reducible refine G.f 44 rfl ?_); refine G.gL 8 Try.func44 #[.int .i64 a0] ?_; (with_reducible refine (cmp_isNaN_int.calls a0 false _ A3.out).mono ?_); rintro e w' ⟨rfl, ⟨nd, rfl⟩⟩; refine ⟨_, rfl, ?_⟩) | ((with_reducible refine G.f 44 rfl ?_); refine G.gL 10 Try.func44 #[.int .i64 a1] ?_; (with_reducible refine (cmp_isNaN_int.calls a1 false _ A4.out).mono ?_); rintro e w' ⟨rfl, ⟨nd, rfl⟩⟩; refine ⟨_, rfl, ?_⟩))
    go_ret
    exact ⟨caal, by repeat (first | exact Drawn0.refl _ | apply Drawn0.step)⟩
   ·rw [if_neg c8] at H; have bH : decide (a0 < a1) = false := decide_eq_false c8; clear c8
    by_cases c9 : a0 > a1
    ·rw [if_pos c9] at H; have df : decide (a1 < a0) = true := decide_eq_true c9; clear c9; obtain rfl := Option.some.inj H
     go_enter Try.func42, Try.ntmps42
     go_wp2_with (first | ((with_reducible refine G.f 44 rfl ?_); refine G.gL 8 Try.func44 #[.int .i64 a0] ?_; (with_reducible refine (cmp_isNaN_int.calls a0 false _ A3.out).mono ?_); rintro e w' ⟨rfl, ⟨nd, rfl⟩⟩; refine ⟨_, rfl, ?_⟩) | ((with_reducible refine G.f 44 rfl ?_); refine G.gL 10 Try.func44 #[.int .i64 a1] ?_; (with_reducible refine (cmp_isNaN_int.calls a1 false _ A4.out).mono ?_); rintro e w' ⟨rfl, ⟨nd, rfl⟩⟩; refine ⟨_, rfl, ?_⟩))
     go_ret
     exact ⟨caal, by repeat (first | exact Drawn0.refl _ | apply Drawn0.step)⟩
    ·rw [if_neg c9] at H; have df : decide (a1 < a0) = false := decide_eq_false c9; clear c9; obtain rfl := Option.some.inj H
     go_enter Try.func42, Try.ntmps42
     go_wp2_with (first | ((with_reducible refine G.f 44 rfl ?_); refine G.gL 8 Try.func44 #[.int .i64 a0] ?_; (with_reducible refine (cmp_isNaN_int.calls a0 false _ A3.out).mono ?_); rintro e w' ⟨rfl, ⟨nd, rfl⟩⟩; refine ⟨_, rfl, ?_⟩) | ((with_reducible refine G.f 44 rfl ?_); refine G.gL 10 Try.func44 #[.int .i64 a1] ?_; (with_reducible refine (cmp_isNaN_int.calls a1 false _ A4.out).mono ?_); rintro e w' ⟨rfl, ⟨nd, rfl⟩⟩; refine ⟨_, rfl, ?_⟩))
     go_ret
     exact ⟨caal, by repeat (first | exact Drawn0.refl _ | apply Drawn0.step)⟩

end Go.Proofs.Ytjkeagcenmmknaa.P
