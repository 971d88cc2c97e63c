-- Printed by a program of this session (mp.py, over the kit's print). Not trusted: Lean checks it.
import Derived.Test.YtddadihobjinhaaF0
import Derived.Test.YtddadihobjinhaaF1
import Derived.Test.YtddadihobjinhaaF2
namespace Go.Proofs.Ytddadihobjinhaa.P
open Go.RowKit Go.Proofs.YtddadihobjinhaaW.PrintWords Go.Proofs.YtddadihobjinhaaW.PrintLast Go.Proofs.YtddadihobjinhaaW.PrintMore
attribute [local go_sem] max2_int min2_int max_two min_two max_three min_three max_four min_four   -- for this text's walks alone
set_option linter.unusedVariables false
set_option linter.unusedSimpArgs false

theorem caax {p : Prop} (h : p := by (try simp only [au]); (try simp only [aw]); (with_reducible repeat (first | refine blk_drewN ?_ _ | refine blk_drew ?_ | refine blk_alloc ?_ _)); exact ac.out) : p := h
theorem caay {p : Prop} (h : p := by (try simp only [au]); (try simp only [aw]); (with_reducible repeat (first | apply Kd.R_alloc | apply Kd.R_drewN | apply Kd.R_drew)); exact ai.out) : p := h
theorem caaw {p : Prop} (h : p := by (with_reducible repeat (first | apply Kd.Q_alloc | apply Kd.Q_drewN | apply Kd.Q_drew)); exact ap.out) : p := h
theorem caav {p : Prop} (h : p := by first | rfl | (simp [errW_none, errW_some] <;> rfl) | (simp [*, errW_none, errW_some] <;> rfl)) : p := h
theorem caat {p : Prop} (h : p := by first | rfl | (simp; done) | (simp [*]; done)) : p := h
theorem caas {p : Prop} (h : p := by rw [hg]; exact (below_size (G.cB HB.out))) : p := h
theorem caau {p : Prop} (h : p := by kernel_rfl) : p := h
attribute [local go_sem high] eqA53
/-! ### spec_l1Knot: function 71 -/
def spec_l1Knot.f (k : Nat) (ab : Int) (aa : List (S53)) (a1 : Int) : Option (Bool) := (spec_NetOk.f k ab aa).bind fun bz => (if bz = true then ((spec_l6In.f a1 0 (wrap64 (ab - 1))).bind fun aX => (some aX)) else (some false))
theorem spec_l1Knot.mono : ∀ a0 a1 a2 k, LeO (spec_l1Knot.f k a0 a1 a2) (spec_l1Knot.f (k + 1) a0 a1 a2) := by
 intro a0 a1 a2 k; unfold spec_l1Knot.f
 repeat' first | (with_reducible first | exact spec_NetOk.mono _ _ _ | exact LeO.refl _ | exact LeO.none _ | refine LeO.ite ?_ ?_ | refine LeO.bind ?_ (fun _ => ?_)) | exact spec_NetOk.mono _ _ _ | exact LeO.none _ | refine LeO.ite ?_ ?_ | refine LeO.bind ?_ (fun _ => ?_)
set_option maxHeartbeats 8000000 in
set_option maxRecDepth 100000 in
theorem spec_l1Knot.calls (k : Nat) (ab : Int) (al : Option Addr) (ak : Nat) (aa : List (S53)) (a1 : Int) (r : Bool) (w : World) (aG : Kd.C k53 w al aa.length aa) (aH : aa.length ≤ ak) (h : spec_l1Knot.f k ab aa a1 = some r) :
  Calls Try.prog 71 #[.agg #[.int .i64 ab, .slice al aa.length ak], .int .i64 a1] w fun e w' => e = .returned (.bool r) ∧ Below w.heap.size w w' := by
 have cd := Try.underlying30; have aE := G.m aG; have aJ := G.m aH; clear aG aH; have HB := G.m (Below.refl w.heap.size w); have H : ((spec_NetOk.f k ab aa).bind fun bz => (if bz = true then ((spec_l6In.f a1 0 (wrap64 (ab - 1))).bind fun aX => (some aX)) else (some false))) = some r := h; clear h; obtain ⟨bz, A3, H⟩ := G.bi H; replace H : (if bz = true then ((spec_l6In.f a1 0 (wrap64 (ab - 1))).bind fun aX => (some aX)) else (some false)) = some r := H
 by_cases c4 : bz = true
 ·subst c4; have H1 : ((spec_l6In.f a1 0 (wrap64 (ab - 1))).bind fun aX => (some aX)) = some r := by rw [if_pos rfl] at H; exact H
  clear H; have H := H1; clear H1; obtain ⟨aX, A5, H⟩ := G.bi H; replace H : (some aX) = some r := H; obtain rfl := Option.some.inj H
  go_enter Try.func71, Try.ntmps71
  go_wp2_with (first | ((with_reducible refine G.h 2 rfl ?_); refine G.be 2 #[.int .i64 ab, .slice al aa.length ak] 30 ?_; intro bl hg w6 hbox hb; have n0 := G.bs HB hb; have n1 := G.m (hbox); have n2 := G.m (caas : w.heap.size ≤ bl); have n3 := G.m (caas : w.heap.size ≤ bl); clear HB; revert n0 n1 n2 n3; intro HB aK dv dw; clear hb hbox hg; have ⟨cY, cZ, c_, da⟩ := G.d2 (w := w6) aK) | ((with_reducible refine G.f 32 rfl ?_); refine G.gL 6 Try.func32 #[.agg #[.int .i64 ab, .slice al aa.length ak]] ?_; (with_reducible refine (spec_NetOk.calls k ab _ _ aa true _ ?side1 ?side2 A3.out).mono ?_); (case side1 => exact G.cC (Kd.C_below aE.out HB.out)); (case side2 => exact aJ.out); rintro e w8 ⟨rfl, hb⟩; refine ⟨_, rfl, ?_⟩; have n0 := G.bb aK hb; have n1 := G.bs HB hb; clear aK HB; revert n0 n1; intro aK HB; (try clear hb); have ⟨db, dc, dd, de⟩ := G.d2 (w := w8) aK) | (go_at_call 43; (with_reducible refine (spec_l6In.calls a1 0 (wrap64 (ab - 1)) aX _ A5.out).mono ?_); rintro e w' ⟨rfl, ⟨nd, rfl⟩⟩))
  go_ret
  exact ⟨caav, G.cB HB.out⟩
 ·replace c4 := Bool.eq_false_iff.mpr c4; subst c4; have H1 : (some false) = some r := by rw [if_neg (show ¬ (false = true) by decide)] at H; exact H
  clear H; have H := H1; clear H1; obtain rfl := Option.some.inj H
  go_enter Try.func71, Try.ntmps71
  go_wp2_with (first | ((with_reducible refine G.h 2 rfl ?_); refine G.be 2 #[.int .i64 ab, .slice al aa.length ak] 30 ?_; intro bl hg cr hbox hb; have n0 := G.bs HB hb; have n1 := G.m (hbox); have n2 := G.m (caas : w.heap.size ≤ bl); have n3 := G.m (caas : w.heap.size ≤ bl); clear HB; revert n0 n1 n2 n3; intro HB aK dv dw; clear hb hbox hg; have ⟨bI, bJ, bK, bL⟩ := G.d2 (w := cr) aK) | ((with_reducible refine G.f 32 rfl ?_); refine G.gL 6 Try.func32 #[.agg #[.int .i64 ab, .slice al aa.length ak]] ?_; (with_reducible refine (spec_NetOk.calls k ab _ _ aa false _ ?side1 ?side2 A3.out).mono ?_); (case side1 => exact G.cC (Kd.C_below aE.out HB.out)); (case side2 => exact aJ.out); rintro e df ⟨rfl, hb⟩; refine ⟨_, rfl, ?_⟩; have n0 := G.bb aK hb; have n1 := G.bs HB hb; clear aK HB; revert n0 n1; intro aK HB; (try clear hb)))
  go_ret
  exact ⟨caav, G.cB HB.out⟩

/-! ### spec_l1Tie: function 94 -/
def spec_l1Tie.f (a0 : Int) (a1 : Int) : Option (Int × Int) := if a0 < a1 then (some (a0, a1)) else (some (a1, a0))
set_option maxHeartbeats 8000000 in
set_option maxRecDepth 100000 in
theorem spec_l1Tie.calls (a0 : Int) (a1 : Int) (r1 : Int) (r2 : Int) (w : World) (h : spec_l1Tie.f a0 a1 = some (r1, r2)) :
  Calls Try.prog 94 #[.int .i64 a0, .int .i64 a1] w fun e w' => e = .returned (.agg #[.int .i64 r1, .int .i64 r2]) ∧ Below w.heap.size w w' := by
 have dY := Try.underlying53; have HB := G.m (Below.refl w.heap.size w); have H : (if a0 < a1 then (some (a0, a1)) else (some (a1, a0))) = some (r1, r2) := h; clear h
 by_cases c3 : a0 < a1
 ·rw [if_pos c3] at H; have dZ : decide (a0 < a1) = true := decide_eq_true c3; clear c3; simp only [Option.some.injEq, Prod.mk.injEq] at H; obtain ⟨rfl, rfl⟩ := H
  go_enter Try.func94, Try.ntmps94
  go_wp2_with (first | ((with_reducible refine G.h 4 rfl ?_); refine G.be 4 #[.int .i64 0, .int .i64 0] 53 ?_; intro a5 hg w4 hbox hb; have n0 := G.bs HB hb; have n1 := G.m (hbox); have n2 := G.m (caas : w.heap.size ≤ a5); have n3 := G.m (caas : w.heap.size ≤ a5); clear HB; revert n0 n1 n2 n3; intro HB bm dx dy; clear hb hbox hg; have ⟨eC, eD, eE, eF⟩ := G.d2 (w := w4) bm))
  refine bodyPost_ret (results_cell_row rfl _ _ a5 53 #[.int .i64 a0, .int .i64 a1] (0, 0) _ rfl (by (with_reducible repeat (first | refine blk_drewN ?_ _ | refine blk_drew ?_ | refine blk_alloc ?_ _)); refine blk_put (cs := #[.int .i64 a0, .int .i64 0]) ?_ 1 _ rfl; (with_reducible repeat (first | refine blk_drewN ?_ _ | refine blk_drew ?_ | refine blk_alloc ?_ _)); refine blk_put (cs := #[.int .i64 0, .int .i64 0]) ?_ 0 _ rfl; (with_reducible repeat (first | refine blk_drewN ?_ _ | refine blk_drew ?_ | refine blk_alloc ?_ _)); exact bm.out) Try.underlying53 rfl (caau)) rfl ?_; exact ⟨caav, G.cB HB.out⟩
 ·rw [if_neg c3] at H; have dZ : decide (a0 < a1) = false := decide_eq_false c3; clear c3; simp only [Option.some.injEq, Prod.mk.injEq] at H; obtain ⟨rfl, rfl⟩ := H
  go_enter Try.func94, Try.ntmps94
  go_wp2_with (first | ((with_reducible refine G.h 4 rfl ?_); refine G.be 4 #[.int .i64 0, .int .i64 0] 53 ?_; intro a5 hg w6 hbox hb; have n0 := G.bs HB hb; have n1 := G.m (hbox); have n2 := G.m (caas : w.heap.size ≤ a5); have n3 := G.m (caas : w.heap.size ≤ a5); clear HB; revert n0 n1 n2 n3; intro HB bm dx dy; clear hb hbox hg; have ⟨cY, cZ, c_, da⟩ := G.d2 (w := w6) bm))
  refine bodyPost_ret (results_cell_row rfl _ _ a5 53 #[.int .i64 a1, .int .i64 a0] (0, 0) _ rfl (by (with_reducible repeat (first | refine blk_drewN ?_ _ | refine blk_drew ?_ | refine blk_alloc ?_ _)); refine blk_put (cs := #[.int .i64 a1, .int .i64 0]) ?_ 1 _ rfl; (with_reducible repeat (first | refine blk_drewN ?_ _ | refine blk_drew ?_ | refine blk_alloc ?_ _)); refine blk_put (cs := #[.int .i64 0, .int .i64 0]) ?_ 0 _ rfl; (with_reducible repeat (first | refine blk_drewN ?_ _ | refine blk_drew ?_ | refine blk_alloc ?_ _)); exact bm.out) Try.underlying53 rfl (caau)) rfl ?_; exact ⟨caav, G.cB HB.out⟩

/-! ### spec_l1Has: function 85 -/
def spec_l1Has.l0 : Nat → Int → Int → Int → Int → List (S53) → Option (Bool)
 | 0, _, _, _, _, _ => none
 | k + 1, x1, x2, x7, cQ, a8 => if x7 < (a8.length : Int) then (if 0 ≤ x7 then ((spec_l1Tie.f x1 x2).bind fun ct => (if (((rd_T53 a8 x7).f0) == ct.1 && (((rd_T53 a8 x7).f1) == ct.2)) = true then (some true) else (spec_l1Has.l0 k x1 x2 (wrap64 (x7 + 1)) cQ a8))) else (none)) else (some false)
def spec_l1Has.f (k : Nat) (ab : Int) (aa : List (S53)) (a1 : Int) (a2 : Int) : Option (Bool) := spec_l1Has.l0 k a1 a2 0 ab aa
theorem spec_l1Has.mono_l : ∀ k, (∀ y0 y1 y2 y3 y4, LeO (spec_l1Has.l0 k y0 y1 y2 y3 y4) (spec_l1Has.l0 (k + 1) y0 y1 y2 y3 y4))
 | 0 => fun _ _ _ _ _ r h => by simp [spec_l1Has.l0] at h
 | k + 1 => by
  have aM := spec_l1Has.mono_l k
  ·intro y0 y1 y2 y3 y4; unfold spec_l1Has.l0
   repeat' first
   | (with_reducible exact aM _ _ _ _ _)
   | (with_reducible exact LeO.refl _)
   | (with_reducible exact LeO.none _)
   | (with_reducible refine LeO.ite ?_ ?_)
   | (with_reducible refine LeO.bind ?_ (fun _ => ?_))
   | exact aM _ _ _ _ _
   | exact LeO.none _
   | refine LeO.ite ?_ ?_
   | refine LeO.bind ?_ (fun _ => ?_)
theorem spec_l1Has.mono : ∀ a0 a1 a2 a3 k, LeO (spec_l1Has.f k a0 a1 a2 a3) (spec_l1Has.f (k + 1) a0 a1 a2 a3) := by
 intro a0 a1 a2 a3 k; have aM := spec_l1Has.mono_l k; unfold spec_l1Has.f
 repeat' first | (with_reducible first | exact aM _ _ _ _ _ | exact LeO.refl _ | exact LeO.none _ | refine LeO.ite ?_ ?_ | refine LeO.bind ?_ (fun _ => ?_)) | exact aM _ _ _ _ _ | exact LeO.none _ | refine LeO.ite ?_ ?_ | refine LeO.bind ?_ (fun _ => ?_)
def spec_l1Has.T4 : Bool × List (List Nat × List Nat) := (true, [([], []), ([0], [0]), ([], []), ([1, 2], [1, 2]), ([3], [3]), ([], []), ([], []), ([5, 6], [5, 6]), ([4, 7], [4, 7])])
def spec_l1Has.B4 : List Nat := [0, 1, 0, 7, 15, 0, 0, 96, 255]
theorem spec_l1Has.tab4 : rtab .any (opsOf Try.f85 4) = spec_l1Has.T4 := by kernel_rfl
theorem spec_l1Has.bits4 : waitsOk spec_l1Has.T4.2 spec_l1Has.B4 = true := by kernel_rfl
set_option maxHeartbeats 8000000 in
set_option maxRecDepth 100000 in
theorem spec_l1Has.calls (k : Nat) (ab : Int) (al : Option Addr) (ak : Nat) (aa : List (S53)) (a1 : Int) (a2 : Int) (r : Bool) (w : World) (aG : Kd.C k53 w al aa.length aa) (aH : aa.length ≤ ak) (h : spec_l1Has.f k ab aa a1 a2 = some r) :
  Calls Try.prog 85 #[.agg #[.int .i64 ab, .slice al aa.length ak], .int .i64 a1, .int .i64 a2] w fun e w' => e = .returned (.bool r) ∧ Below w.heap.size w w' := by
 have cd := Try.underlying30; have dY := Try.underlying53; have aE := G.m aG; have aJ := G.m aH; clear aG aH; have HB := G.m (Below.refl w.heap.size w); have H : (spec_l1Has.l0 k a1 a2 0 ab aa) = some r := h; clear h; have H' := G.m H; clear H
 go_enter Try.func85, Try.ntmps85
 go_wp2_with (first | ((with_reducible refine G.h 3 rfl ?_); refine G.be 3 #[.int .i64 ab, .slice al aa.length ak] 30 ?_; intro a6 hg w4 hbox hb; have n0 := G.bs HB hb; have n1 := G.m (hbox); have n2 := G.m (caas : w.heap.size ≤ a6); have n3 := G.m (caas : w.heap.size ≤ a6); clear HB; revert n0 n1 n2 n3; intro HB aj eN eO; clear hb hbox hg))
 go_loopg [7] k (fun kq v7 w' => ∃ (ah : Int), v7 = .int .i64 ah ∧ Aside0 (spec_l1Has.l0 kq a1 a2 ah ab aa = some r) ∧ Aside0 (kq ≤ k) ∧ Aside0 (w'.heap[a6]? = some (.cells #[.int .i64 ab, (.slice al aa.length ak)] 30 (0, 0))) ∧ Aside0 (Below w.heap.size w w'))
 case atStart => exact ⟨(0), (caat), H', ⟨Nat.le_refl _⟩, ⟨G.cb aj.out⟩, ⟨G.cB HB.out⟩⟩
 case round =>
  clear H'; try clear p2
  obtain ⟨ah, rfl, HA, aW, aj, HB⟩ := hrel; cases gk with
  | zero => exact absurd HA.out (by simp [spec_l1Has.l0])
  | succ k1 =>
   have H := HA.out; clear HA; simp only [spec_l1Has.l0] at H
   by_cases c5 : ah < (aa.length : Int)
   ·rw [if_pos c5] at H; have ce : decide (ah < (aa.length : Int)) = true := decide_eq_true c5; clear c5
    by_cases c6 : 0 ≤ ah
    ·rw [if_pos c6] at H; have bU : decide (0 ≤ ah) = true := decide_eq_true c6; clear c6; obtain ⟨⟨aU, aV⟩, A7, H⟩ := G.bi H; replace H : (if (((rd_T53 aa ah).f0) == aU && (((rd_T53 aa ah).f1) == aV)) = true then (some true) else (spec_l1Has.l0 k1 a1 a2 (wrap64 (ah + 1)) ab aa)) = some r := H
     by_cases c8 : (((rd_T53 aa ah).f0) == aU && (((rd_T53 aa ah).f1) == aV)) = true
     ·rw [if_pos c8] at H; have cf : (((rd_T53 aa ah).f0) == aU && (((rd_T53 aa ah).f1) == aV)) = true := c8; (try (have d7 : decide (((rd_T53 aa ah).f0) = aU && (((rd_T53 aa ah).f1) == aV)) = true := by simpa using c8)); (try (have d8 : (((rd_T53 aa ah).f0) == aU && (((rd_T53 aa ah).f1) == aV)) = true := by simpa using c8)); clear c8; obtain rfl := Option.some.inj H; have ⟨db, dc, dd, de⟩ := G.d2 (w := wr) aj; try go_wp2
      have n0 := G.m (blk_drew aj.out); have n1 := G.m (below_drew1 HB.out); clear aj HB; revert n0 n1; intro aj HB; have ba : 0 ≤ (ah : Int) := of_decide_eq_true (G.asm); have bc : ah < (aa.length : Int) := of_decide_eq_true (G.asm); obtain ⟨aN, cg, az, aA⟩ := at_T53 aE.out ah ba bc; have aY := aA; have aZ := az; cases cg; replace az := G.hx HB az; replace aA := G.hx HB aA; replace ba := eq_true ba; replace bc := eq_true bc; refine G.st 9 (S := fun w' => w'.cell? ⟨a6, 0, none⟩ = some (.int .i64 ab) ∧ w'.cell? ⟨a6, 1, none⟩ = some (.slice (some aN) aa.length ak) ∧ w'.cell? (aN.add ((ah).toNat * 2)) = some (.int .i64 ((rd_T53 aa ah).f0)) ∧ w'.cell? ⟨(aN.add ((ah).toNat * 2)).block, (aN.add ((ah).toNat * 2)).off + 1, none⟩ = some (.int .i64 ((rd_T53 aa ah).f1))) [] ⟨G.z aj 0, G.z aj 1, (G.hx HB aZ), (G.hx HB aY)⟩ spec_l1Has.tab4 spec_l1Has.bits4 (fun hHeld HT_ HW_ => ?_); generalize wr.drew = cr at aj HB az aA hHeld ⊢; refine G.pu 0 15 1 ?_; refine G.pu 2 17 5 ?_; refine G.pu 5 20 37 ?_; refine G.pu 6 21 101 ?_; refine G.ta4 1 16 103 ?_; refine G.pu 3 18 111 ?_; refine G.ta4 4 19 127 ?_; refine G.on 7 22 255 (fun K hK => ?_); refine G.gs Try.func94 #[.int .i64 a1, .int .i64 a2] ?_; with_reducible refine (spec_l1Tie.calls a1 a2 aU aV _ A7.out).mono ?_
      rintro e eG ⟨rfl, hb⟩; refine ⟨_, rfl, ?_⟩; have n0 := G.bb aj hb; have n1 := G.bs HB hb; clear aj HB; revert n0 n1; intro aj HB; (try clear hb); refine hK.out _ _ ⟨G.z aj 0, G.z aj 1, (G.hx HB aZ), (G.hx HB aY)⟩ (fun hHeld => ?_); clear hK K; refine G.no 22 ?_; refine G.pu 8 23 511 ?_; refine done_ (done_of HT_.out (caau)) ?_; try go_wp2
      go_ret
      exact ⟨caav, G.cB HB.out⟩
     ·rw [if_neg c8] at H; have cf : (((rd_T53 aa ah).f0) == aU && (((rd_T53 aa ah).f1) == aV)) = false := by simpa using c8
      (try (have d7 : decide (((rd_T53 aa ah).f0) = aU && (((rd_T53 aa ah).f1) == aV)) = false := by simpa using c8)); (try (have d8 : (((rd_T53 aa ah).f0) == aU && (((rd_T53 aa ah).f1) == aV)) = false := by simpa using c8)); (try (have eY : ¬ (((rd_T53 aa ah).f0) = aU && (((rd_T53 aa ah).f1) == aV)) := by simpa using c8)); clear c8; have H' := G.m H; clear H; have ⟨eo, ep, eq, er⟩ := G.d2 (w := wr) aj; try go_wp2
      have n0 := G.m (blk_drew aj.out); have n1 := G.m (below_drew1 HB.out); clear aj HB; revert n0 n1; intro aj HB; have ba : 0 ≤ (ah : Int) := of_decide_eq_true (G.asm); have bc : ah < (aa.length : Int) := of_decide_eq_true (G.asm); obtain ⟨aN, cg, az, aA⟩ := at_T53 aE.out ah ba bc; have aY := aA; have aZ := az; cases cg; replace az := G.hx HB az; replace aA := G.hx HB aA; replace ba := eq_true ba; replace bc := eq_true bc; refine G.st 9 (S := fun w' => w'.cell? ⟨a6, 0, none⟩ = some (.int .i64 ab) ∧ w'.cell? ⟨a6, 1, none⟩ = some (.slice (some aN) aa.length ak) ∧ w'.cell? (aN.add ((ah).toNat * 2)) = some (.int .i64 ((rd_T53 aa ah).f0)) ∧ w'.cell? ⟨(aN.add ((ah).toNat * 2)).block, (aN.add ((ah).toNat * 2)).off + 1, none⟩ = some (.int .i64 ((rd_T53 aa ah).f1))) [] ⟨G.z aj 0, G.z aj 1, (G.hx HB aZ), (G.hx HB aY)⟩ spec_l1Has.tab4 spec_l1Has.bits4 (fun hHeld HT_ HW_ => ?_); generalize wr.drew = fg at aj HB az aA hHeld ⊢; refine G.pu 0 15 1 ?_; refine G.pu 2 17 5 ?_; refine G.pu 5 20 37 ?_; refine G.pu 6 21 101 ?_; refine G.ta4 1 16 103 ?_; refine G.pu 3 18 111 ?_; refine G.ta4 4 19 127 ?_; refine G.on 7 22 255 (fun K hK => ?_); refine G.gs Try.func94 #[.int .i64 a1, .int .i64 a2] ?_; with_reducible refine (spec_l1Tie.calls a1 a2 aU aV _ A7.out).mono ?_
      rintro e cu ⟨rfl, hb⟩; refine ⟨_, rfl, ?_⟩; have n0 := G.bb aj hb; have n1 := G.bs HB hb; clear aj HB; revert n0 n1; intro aj HB; (try clear hb); refine hK.out _ _ ⟨G.z aj 0, G.z aj 1, (G.hx HB aZ), (G.hx HB aY)⟩ (fun hHeld => ?_); clear hK K; refine G.no 22 ?_; refine G.pu 8 23 511 ?_; refine done_ (done_of HT_.out (caau)) ?_; try go_wp2
      go_roundg k1
      case measure => have := aW.out; omega
      case rel => exact ⟨(wrap64 (ah + 1)), (caat), H', ⟨by have := aW.out; omega⟩, ⟨G.cb aj.out⟩, ⟨G.cB HB.out⟩⟩
    ·rw [if_neg c6] at H; exact absurd H (by simp)
   ·rw [if_neg c5] at H; have ce : decide (ah < (aa.length : Int)) = false := decide_eq_false c5; clear c5; obtain rfl := Option.some.inj H; have ⟨cS, cT, cU, cW⟩ := G.d2 (w := wr) aj
    go_wp2
    go_ret
    exact ⟨caav, G.cB HB.out⟩

/-! ### spec_l2Next: function 73 -/
def spec_l2Next.l0 : Nat → Int → List Int → Int → Int → List (S53) → Option (List Int)
 | 0, _, _, _, _, _ => none
 | k + 1, x1, x5, x6, a9, bA => if x6 < a9 then ((spec_l1Has.f k a9 bA x1 x6).bind fun bV => (if bV = true then (if x5.length < 17592186044416 then (spec_l2Next.l0 k x1 (x5 ++ [x6]) (wrap64 (x6 + 1)) a9 bA) else (none)) else (spec_l2Next.l0 k x1 x5 (wrap64 (x6 + 1)) a9 bA))) else (some x5)
def spec_l2Next.f (k : Nat) (ab : Int) (aa : List (S53)) (a1 : Int) : Option (List Int) := spec_l2Next.l0 k a1 (([] : List Int)) 0 ab aa
theorem spec_l2Next.mono_l : ∀ k, (∀ y0 y1 y2 y3 y4, LeO (spec_l2Next.l0 k y0 y1 y2 y3 y4) (spec_l2Next.l0 (k + 1) y0 y1 y2 y3 y4))
 | 0 => fun _ _ _ _ _ r h => by simp [spec_l2Next.l0] at h
 | k + 1 => by
  have aM := spec_l2Next.mono_l k
  ·intro y0 y1 y2 y3 y4; unfold spec_l2Next.l0
   repeat' first
   | (with_reducible exact aM _ _ _ _ _)
   | (with_reducible exact spec_l1Has.mono _ _ _ _ _)
   | (with_reducible exact LeO.refl _)
   | (with_reducible exact LeO.none _)
   | (with_reducible refine LeO.ite ?_ ?_)
   | (with_reducible refine LeO.bind ?_ (fun _ => ?_))
   | exact aM _ _ _ _ _
   | exact spec_l1Has.mono _ _ _ _ _
   | exact LeO.none _
   | refine LeO.ite ?_ ?_
   | refine LeO.bind ?_ (fun _ => ?_)
theorem spec_l2Next.mono : ∀ a0 a1 a2 k, LeO (spec_l2Next.f k a0 a1 a2) (spec_l2Next.f (k + 1) a0 a1 a2) := by
 intro a0 a1 a2 k; have aM := spec_l2Next.mono_l k; unfold spec_l2Next.f
 repeat' first | (with_reducible first | exact aM _ _ _ _ _ | exact spec_l1Has.mono _ _ _ _ _ | exact LeO.refl _ | exact LeO.none _ | refine LeO.ite ?_ ?_ | refine LeO.bind ?_ (fun _ => ?_)) | exact aM _ _ _ _ _ | exact spec_l1Has.mono _ _ _ _ _ | exact LeO.none _ | refine LeO.ite ?_ ?_ | refine LeO.bind ?_ (fun _ => ?_)
set_option maxHeartbeats 8000000 in
set_option maxRecDepth 100000 in
theorem spec_l2Next.calls (k : Nat) (ab : Int) (al : Option Addr) (ak : Nat) (aa : List (S53)) (a1 : Int) (r : List Int) (w : World) (aG : Kd.C k53 w al aa.length aa) (aH : aa.length ≤ ak) (h : spec_l2Next.f k ab aa a1 = some r) :
  Calls Try.prog 73 #[.agg #[.int .i64 ab, .slice al aa.length ak], .int .i64 a1] w fun e w' => ∃ b7 : Value, e = .returned (b7) ∧ Kd.R (Kd.int .i64) 3 w' w.heap.size (fun _ => True) b7 r ∧ Below w.heap.size w w' := by
 have cd := Try.underlying30; have aE := G.m aG; have aJ := G.m aH; clear aG aH; have HB := G.m (Below.refl w.heap.size w); have H : (spec_l2Next.l0 k a1 (([] : List Int)) 0 ab aa) = some r := h; clear h; obtain ⟨dg, bn⟩ : ∃ y_ : List Int, y_ = (([] : List Int)) := ⟨_, rfl⟩; replace H : (spec_l2Next.l0 k a1 dg 0 ab aa) = some r := by first | (rw [bn]; with_reducible exact H) | (have am := (Option.bind_some _ _).symm.trans H; rw [bn]; with_reducible exact am) | (have am := (Option.bind_some _ _).symm.trans H; with_reducible exact am) | with_reducible exact H | (rw [bn]; exact H) | exact H
 have cv := G.m bn; clear bn; have H' := G.m H; clear H
 go_enter Try.func73, Try.ntmps73
 go_wp2_with (first | ((with_reducible refine G.h 2 rfl ?_); refine G.be 2 #[.int .i64 ab, .slice al aa.length ak] 30 ?_; intro bW hg w3 hbox hb; have n0 := G.bs HB hb; have n1 := G.m (hbox); have n2 := G.m (caas : w.heap.size ≤ bW); have n3 := G.m (caas : w.heap.size ≤ bW); clear HB; revert n0 n1 n2 n3; intro HB ao eP eQ; clear hb hbox hg) | ((with_reducible refine G.h 7 rfl ?_); refine Kd.R_lit (Kd.int .i64) _ 3 ?hg (N := 7) ?hd (xs := ([] : List Int)) (inner := []) (ok := fun _ => True) (okp := fun _ => True) ?hr ?hp (fun _ hk => hk) trivial (Below.refl _ _) (Nat.le_refl _) (by simp) ?_; (case hd => rfl); (case hg => rfl); (case hr => first | (go_simp; done) | (go_simp; rfl)); (case hp => exact (Reps.none _ _)); intro eZ w4 b8 hb hg_ hnew_; clear hg_ hnew_; (first | rw [← cv.out] at b8 | (simp only [Int.reduceToNat] at b8; rw [← cv.out] at b8)); have n0 := G.m (Kd.R_lower b8 (below_size (G.cB HB.out))); have n1 := G.bb ao hb; have n2 := G.bs HB hb; clear ao HB; revert n0 n1 n2; intro dz ao HB; clear hb b8))
 go_loopg [5, 6] k (fun kq v5 v6 w' => ∃ (aq : List Int) (af : Int), v6 = .int .i64 af ∧ Aside0 (spec_l2Next.l0 kq a1 aq af ab aa = some r) ∧ Aside0 (kq ≤ k) ∧ Aside0 (Kd.R (Kd.int .i64) 3 w' w.heap.size (fun _ => True) v5 aq) ∧ Aside0 (w'.heap[bW]? = some (.cells #[.int .i64 ab, (.slice al aa.length ak)] 30 (0, 0))) ∧ Aside0 (Below w.heap.size w w'))
 case atStart => exact ⟨(dg), (0), (caat), H', ⟨Nat.le_refl _⟩, ⟨G.cR dz.out⟩, ⟨G.cb ao.out⟩, ⟨G.cB HB.out⟩⟩
 case round =>
  clear H'; try clear p2
  obtain ⟨aq, af, rfl, HA, aW, ai, ao, HB⟩ := hrel; cases gk with
  | zero => exact absurd HA.out (by simp [spec_l2Next.l0])
  | succ k1 =>
   have H := HA.out; clear HA; simp only [spec_l2Next.l0] at H
   by_cases c6 : af < ab
   ·rw [if_pos c6] at H; have bU : decide (af < ab) = true := decide_eq_true c6; clear c6; obtain ⟨bV, A7, H⟩ := G.bi H; replace H : (if bV = true then (if aq.length < 17592186044416 then (spec_l2Next.l0 k1 a1 (aq ++ [af]) (wrap64 (af + 1)) ab aa) else (none)) else (spec_l2Next.l0 k1 a1 aq (wrap64 (af + 1)) ab aa)) = some r := H
    by_cases c8 : bV = true
    ·subst c8; have H1 : (if aq.length < 17592186044416 then (spec_l2Next.l0 k1 a1 (aq ++ [af]) (wrap64 (af + 1)) ab aa) else (none)) = some r := by rw [if_pos rfl] at H; exact H
     clear H; have H := H1; clear H1
     by_cases c9 : aq.length < 17592186044416
     ·rw [if_pos c9] at H; have d9 := G.m c9; clear c9; obtain ⟨dh, bo⟩ : ∃ y_ : List Int, y_ = (aq ++ [af]) := ⟨_, rfl⟩; replace H : (spec_l2Next.l0 k1 a1 dh (wrap64 (af + 1)) ab aa) = some r := by first | (rw [bo]; with_reducible exact H) | (have am := (Option.bind_some _ _).symm.trans H; rw [bo]; with_reducible exact am) | (have am := (Option.bind_some _ _).symm.trans H; with_reducible exact am) | with_reducible exact H | (rw [bo]; exact H) | exact H
      have dA := G.m bo; clear bo; have H' := G.m H; clear H; have ⟨es, et, eu, ev⟩ := G.d2 (w := wr) ao
      go_wp2_with (first | ((with_reducible refine G.f 85 rfl ?_); refine G.gL 17 Try.func85 #[.agg #[.int .i64 ab, .slice al aa.length ak], .int .i64 a1, .int .i64 af] ?_; (with_reducible refine (spec_l1Has.calls k1 ab _ _ aa a1 af true _ ?side1 ?side2 A7.out).mono ?_); (case side1 => exact G.cC (Kd.C_below aE.out HB.out)); (case side2 => exact aJ.out); rintro e eG ⟨rfl, hb⟩; refine ⟨_, rfl, ?_⟩; have n0 := G.rb ai hb; have n1 := G.bb ao hb; have n2 := G.bs HB hb; clear ai ao HB; revert n0 n1 n2; intro ai ao HB; (try clear hb)) | ((with_reducible refine gate_builtin (b := .append) (xs := #[.tmp 18, .tmp 20]) rfl ?_); at_builtin; refine Kd.R_append (Kd.int .i64) (w0 := w) w.heap.size rfl (.tmp 18) (.tmp 20) 25 3 (.int .i64 0) 8 rfl Try.underlying25 info3 rfl (by decide) (by omega) u5 aq af [.int .i64 af] (fun _ => True) (fun _ => False) rfl rfl ?aP (fun _ hk => hk.elim) ?aF ?aO ?aB ?aS ?aL ?_; (case aP => exact rfl); (case aB => exact (G.cB HB.out)); (case aF => exact (fun _ _ => trivial)); (case aO => exact (G.cR ai.out)); (case aS => exact (below_size (G.cB HB.out))); (case aL => have := d9.out; omega); intro e2 df ho hb hg hat; rw [← dA.out] at ho; have n0 := G.bg ao hg (Kd.R_ne ai.out ao.out (by decide)); have n1 := G.m (hb); have n2 := G.m (ho); clear ao HB ai; revert n0 n1 n2; intro ao HB dB; clear ho hb hg hat))
      go_roundg k1
      case measure => have := aW.out; omega
      case rel => exact ⟨(dh), (wrap64 (af + 1)), (caat), H', ⟨by have := aW.out; omega⟩, ⟨G.cR dB.out⟩, ⟨G.cb ao.out⟩, ⟨G.cB HB.out⟩⟩
     ·rw [if_neg c9] at H; exact absurd H (by simp)
    ·replace c8 := Bool.eq_false_iff.mpr c8; subst c8; have H1 : (spec_l2Next.l0 k1 a1 aq (wrap64 (af + 1)) ab aa) = some r := by rw [if_neg (show ¬ (false = true) by decide)] at H; exact H
     clear H; have H := H1; clear H1; have H' := G.m H; clear H; have ⟨bM, bN, bO, bP⟩ := G.d2 (w := wr) ao
     go_wp2_with (first | ((with_reducible refine G.f 85 rfl ?_); refine G.gL 17 Try.func85 #[.agg #[.int .i64 ab, .slice al aa.length ak], .int .i64 a1, .int .i64 af] ?_; (with_reducible refine (spec_l1Has.calls k1 ab _ _ aa a1 af false _ ?side1 ?side2 A7.out).mono ?_); (case side1 => exact G.cC (Kd.C_below aE.out HB.out)); (case side2 => exact aJ.out); rintro e cu ⟨rfl, hb⟩; refine ⟨_, rfl, ?_⟩; have n0 := G.rb ai hb; have n1 := G.bb ao hb; have n2 := G.bs HB hb; clear ai ao HB; revert n0 n1 n2; intro ai ao HB; (try clear hb)))
     go_roundg k1
     case measure => have := aW.out; omega
     case rel => exact ⟨(aq), (wrap64 (af + 1)), (caat), H', ⟨by have := aW.out; omega⟩, ⟨G.cR ai.out⟩, ⟨G.cb ao.out⟩, ⟨G.cB HB.out⟩⟩
   ·rw [if_neg c6] at H; have bU : decide (af < ab) = false := decide_eq_false c6; clear c6; obtain rfl := Option.some.inj H; have ⟨cS, cT, cU, cW⟩ := G.d2 (w := wr) ao
    go_wp2
    go_ret
    exact ⟨_, by first | rfl | (simp [errW_none, errW_some] <;> rfl) | (simp [*, errW_none, errW_some] <;> rfl), G.cR ai.out, G.cB HB.out⟩

/-! ### spec_WayReach: function 56 -/
mutual
def spec_WayReach.l0 : Nat → List Bool → List Int → Int → List (S53) → Option (List Bool)
 | 0, _, _, _, _ => none
 | k + 1, x5, x6, aR, aT => if (x6.length : Int) > 0 then (if 0 < (x6.length : Int) then ((spec_l2Next.f k aR aT (rd x6 0)).bind fun ag => (if 1 ≤ (x6.length : Int) then (spec_WayReach.l1 k x5 (x6.drop (1 : Int).toNat) ag 0 aR aT) else (none))) else (none)) else (some x5)
def spec_WayReach.l1 : Nat → List Bool → List Int → List Int → Int → Int → List (S53) → Option (List Bool)
 | 0, _, _, _, _, _, _ => none
 | k + 1, x5, x6, x7, x8, aR, aT => if x8 < (x7.length : Int) then (if 0 ≤ x8 then (if 0 ≤ (rd x7 x8) then (if (rd x7 x8) < (x5.length : Int) then (if (rdOf false x5 (rd x7 x8) = true) then (spec_WayReach.l1 k x5 x6 x7 (wrap64 (x8 + 1)) aR aT) else (if x6.length < 17592186044416 then (spec_WayReach.l1 k (x5.set ((rd x7 x8) : Int).toNat true) (x6 ++ [rd x7 x8]) x7 (wrap64 (x8 + 1)) aR aT) else (none))) else (none)) else (none)) else (none)) else (spec_WayReach.l0 k x5 x6 aR aT)
end
def spec_WayReach.f (k : Nat) (ab : Int) (aa : List (S53)) (a1 : Int) : Option (List Bool) := (spec_l1Knot.f k ab aa a1).bind fun bB => (if bB = true then (if 0 ≤ ab then (if (ab : Int).toNat ≤ 281474976710656 then ((some (List.replicate (ab : Int).toNat false : List Bool)).bind fun av => (if 0 ≤ a1 then (if a1 < (av.length : Int) then (spec_WayReach.l0 k (av.set (a1 : Int).toNat true) (([a1] : List Int)) ab aa) else (none)) else (none))) else (none)) else (none)) else (some (([] : List Bool))))
theorem spec_WayReach.mono_l : ∀ k, (∀ y0 y1 y2 y3, LeO (spec_WayReach.l0 k y0 y1 y2 y3) (spec_WayReach.l0 (k + 1) y0 y1 y2 y3)) ∧ (∀ y0 y1 y2 y3 y4 y5, LeO (spec_WayReach.l1 k y0 y1 y2 y3 y4 y5) (spec_WayReach.l1 (k + 1) y0 y1 y2 y3 y4 y5))
 | 0 => ⟨fun _ _ _ _ r h => by simp [spec_WayReach.l0] at h, fun _ _ _ _ _ _ r h => by simp [spec_WayReach.l1] at h⟩
 | k + 1 => by
  obtain ⟨aM, b9⟩ := spec_WayReach.mono_l k; refine ⟨?_, ?_⟩ <;> intros
  all_goals first | unfold spec_WayReach.l0 | unfold spec_WayReach.l1
  repeat' first | (with_reducible first | exact aM _ _ _ _ | exact b9 _ _ _ _ _ _ | exact spec_l1Knot.mono _ _ _ _ | exact spec_l2Next.mono _ _ _ _ | exact LeO.refl _ | exact LeO.none _ | refine LeO.ite ?_ ?_ | refine LeO.bind ?_ (fun _ => ?_)) | exact aM _ _ _ _ | exact b9 _ _ _ _ _ _ | exact spec_l1Knot.mono _ _ _ _ | exact spec_l2Next.mono _ _ _ _ | exact LeO.none _ | refine LeO.ite ?_ ?_ | refine LeO.bind ?_ (fun _ => ?_)
theorem spec_WayReach.mono : ∀ a0 a1 a2 k, LeO (spec_WayReach.f k a0 a1 a2) (spec_WayReach.f (k + 1) a0 a1 a2) := by
 intro a0 a1 a2 k; obtain ⟨aM, b9⟩ := spec_WayReach.mono_l k; unfold spec_WayReach.f
 repeat' first | (with_reducible first | exact aM _ _ _ _ | exact b9 _ _ _ _ _ _ | exact spec_l1Knot.mono _ _ _ _ | exact spec_l2Next.mono _ _ _ _ | exact LeO.refl _ | exact LeO.none _ | refine LeO.ite ?_ ?_ | refine LeO.bind ?_ (fun _ => ?_)) | exact aM _ _ _ _ | exact b9 _ _ _ _ _ _ | exact spec_l1Knot.mono _ _ _ _ | exact spec_l2Next.mono _ _ _ _ | exact LeO.none _ | refine LeO.ite ?_ ?_ | refine LeO.bind ?_ (fun _ => ?_)
set_option maxHeartbeats 8000000 in
set_option maxRecDepth 100000 in
theorem spec_WayReach.calls (k : Nat) (ab : Int) (al : Option Addr) (ak : Nat) (aa : List (S53)) (a1 : Int) (r : List Bool) (w : World) (aG : Kd.C k53 w al aa.length aa) (aH : aa.length ≤ ak) (h : spec_WayReach.f k ab aa a1 = some r) :
  Calls Try.prog 56 #[.agg #[.int .i64 ab, .slice al aa.length ak], .int .i64 a1] w fun e w' => ∃ b7 : Value, e = .returned (b7) ∧ Kd.R Kd.bool 4 w' w.heap.size (fun _ => True) b7 r ∧ Below w.heap.size w w' := by
 have cd := Try.underlying30; have aE := G.m aG; have aJ := G.m aH; clear aG aH; have HB := G.m (Below.refl w.heap.size w); have H : ((spec_l1Knot.f k ab aa a1).bind fun bB => (if bB = true then (if 0 ≤ ab then (if (ab : Int).toNat ≤ 281474976710656 then ((some (List.replicate (ab : Int).toNat false : List Bool)).bind fun av => (if 0 ≤ a1 then (if a1 < (av.length : Int) then (spec_WayReach.l0 k (av.set (a1 : Int).toNat true) (([a1] : List Int)) ab aa) else (none)) else (none))) else (none)) else (none)) else (some (([] : List Bool))))) = some r := h; clear h; obtain ⟨bB, A3, H⟩ := G.bi H; replace H : (if bB = true then (if 0 ≤ ab then (if (ab : Int).toNat ≤ 281474976710656 then ((some (List.replicate (ab : Int).toNat false : List Bool)).bind fun av => (if 0 ≤ a1 then (if a1 < (av.length : Int) then (spec_WayReach.l0 k (av.set (a1 : Int).toNat true) (([a1] : List Int)) ab aa) else (none)) else (none))) else (none)) else (none)) else (some (([] : List Bool)))) = some r := H
 by_cases c4 : bB = true
 ·subst c4; have H1 : (if 0 ≤ ab then (if (ab : Int).toNat ≤ 281474976710656 then ((some (List.replicate (ab : Int).toNat false : List Bool)).bind fun av => (if 0 ≤ a1 then (if a1 < (av.length : Int) then (spec_WayReach.l0 k (av.set (a1 : Int).toNat true) (([a1] : List Int)) ab aa) else (none)) else (none))) else (none)) else (none)) = some r := by rw [if_pos rfl] at H; exact H
  clear H; have H := H1; clear H1
  by_cases c5 : 0 ≤ ab
  ·rw [if_pos c5] at H; have ce := eq_true c5; have d_ : decide (0 ≤ ab) = true := decide_eq_true c5; clear c5
   by_cases c6 : (ab : Int).toNat ≤ 281474976710656
   ·rw [if_pos c6] at H; have bU := eq_true c6; have ea : decide ((ab : Int).toNat ≤ 281474976710656) = true := decide_eq_true c6; clear c6; obtain ⟨av, bp⟩ : ∃ y_ : List Bool, y_ = (List.replicate (ab : Int).toNat false) := ⟨_, rfl⟩; replace H : (if 0 ≤ a1 then (if a1 < (av.length : Int) then (spec_WayReach.l0 k (av.set (a1 : Int).toNat true) (([a1] : List Int)) ab aa) else (none)) else (none)) = some r := by first | (rw [bp]; with_reducible exact H) | (have am := (Option.bind_some _ _).symm.trans H; rw [bp]; with_reducible exact am) | (have am := (Option.bind_some _ _).symm.trans H; with_reducible exact am) | with_reducible exact H | (rw [bp]; exact H) | exact H
    have cw := G.m bp; clear bp
    by_cases c7 : 0 ≤ a1
    ·rw [if_pos c7] at H; have eb : decide (0 ≤ a1) = true := decide_eq_true c7; clear c7
     by_cases c8 : a1 < (av.length : Int)
     ·rw [if_pos c8] at H; have cf : decide (a1 < (av.length : Int)) = true := decide_eq_true c8; clear c8; obtain ⟨bX, bq⟩ : ∃ y_ : List Bool, y_ = (av.set (a1 : Int).toNat true) := ⟨_, rfl⟩; replace H : (spec_WayReach.l0 k bX (([a1] : List Int)) ab aa) = some r := by first | (rw [bq]; with_reducible exact H) | (have am := (Option.bind_some _ _).symm.trans H; rw [bq]; with_reducible exact am) | (have am := (Option.bind_some _ _).symm.trans H; with_reducible exact am) | with_reducible exact H | (rw [bq]; exact H) | exact H
      have dC := G.m bq; clear bq; obtain ⟨di, br⟩ : ∃ y_ : List Int, y_ = (([a1] : List Int)) := ⟨_, rfl⟩; replace H : (spec_WayReach.l0 k bX di ab aa) = some r := by first | (rw [br]; with_reducible exact H) | (have am := (Option.bind_some _ _).symm.trans H; rw [br]; with_reducible exact am) | (have am := (Option.bind_some _ _).symm.trans H; with_reducible exact am) | with_reducible exact H | (rw [br]; exact H) | exact H
      have cx := G.m br; clear br; have H' := G.m H; clear H
      go_enter Try.func56, Try.ntmps56
      go_wp2_with (first | ((with_reducible refine G.h 2 rfl ?_); refine G.be 2 #[.int .i64 ab, .slice al aa.length ak] 30 ?_; intro aQ hg cr hbox hb; have n0 := G.bs HB hb; have n1 := G.m (hbox); have n2 := G.m (caas : w.heap.size ≤ aQ); have n3 := G.m (caas : w.heap.size ≤ aQ); clear HB; revert n0 n1 n2 n3; intro HB ac dD dE; clear hb hbox hg; have ⟨bI, bJ, bK, bL⟩ := G.d2 (w := cr) ac) | ((with_reducible refine G.f 71 rfl ?_); refine G.gL 11 Try.func71 #[.agg #[.int .i64 ab, .slice al aa.length ak], .int .i64 a1] ?_; (with_reducible refine (spec_l1Knot.calls k ab _ _ aa a1 true _ ?side1 ?side2 A3.out).mono ?_); (case side1 => exact G.cC (Kd.C_below aE.out HB.out)); (case side2 => exact aJ.out); rintro e df ⟨rfl, hb⟩; refine ⟨_, rfl, ?_⟩; have n0 := G.bb ac hb; have n1 := G.bs HB hb; clear ac HB; revert n0 n1; intro ac HB; (try clear hb); have ⟨bM, bN, bO, bP⟩ := G.d2 (w := df) ac) | ((with_reducible refine G.h 16 rfl ?_); refine Kd.R_make Kd.bool _ 4 rfl (N := 16) rfl 69 _ _ rfl ab rfl rfl Try.underlying69 (.bool false) 1 info4 rfl (by decide) (by omega) false (ok := fun _ => True) (okp := fun _ => True) rfl (fun _ hk => hk) trivial (of_decide_eq_true (G.asm)) (Nat.le_trans (Nat.mul_le_mul_right _ (of_decide_eq_true (G.asm) : ab.toNat ≤ 281474976710656)) (by omega)) (Below.refl _ _) (Nat.le_refl _) ?_; intro e3 cu bE hb hg_ hnew_; clear hg_ hnew_; (first | rw [← cw.out] at bE | (simp only [Int.reduceToNat] at bE; rw [← cw.out] at bE)); have n0 := G.m (Kd.R_lower bE (below_size (G.cB HB.out))); have n1 := G.bb ac hb; have n2 := G.bs HB hb; clear ac HB; revert n0 n1 n2; intro aI ac HB; clear hb bE; have p9 : 0 ≤ (a1 : Int) := of_decide_eq_true (G.asm); have q9 : (a1 : Int) < ((av.length : Int) : Int) := of_decide_eq_true (G.asm); obtain ⟨a7, bQ, dU, dV, eH, fh, dW⟩ := Kd.R_form aI.out (by omega); (first | cases dU | (injection dU with ea_ en_ ec_; (first | subst ea_ | (injection ea_ with ea_; subst ea_)); subst ec_; clear en_)); have dX := G.m dV; have fi := G.m dW; clear dV eH dW; obtain ⟨dF, eR⟩ := Kd.R_celln false aI.out (a1 : Int) p9 q9; replace p9 := eq_true p9; replace q9 := eq_true q9; obtain ⟨eS, eT⟩ := Kd.R_celln false aI.out (a1 : Int) (of_decide_eq_true (G.asm)) (of_decide_eq_true (G.asm)); have ch := Kd.R_putg aI.out (a1 : Int) true) | ((with_reducible refine gate_store (t := 4) (p := 19) rfl ?_); refine store_event (t := 4) (p := 19) (v := ?vo_w17) (w1 := (cu.setCell ⟨a7, (a1 : Int).toNat, none⟩ (.bool true))) ?hg ?ho ?hn ?hr ?_; (case ho => rfl); (case hg => rfl); (case hn => rfl); (case hr => first | (go_simp; done) | (go_simp; rfl)); intro dj hw; have hg : cu.grownBy dj (some a7) := (by rw [hw]; exact ch.2); have hp_ : Kd.R Kd.bool 4 dj w.heap.size (fun _ => True) (.slice (some ⟨a7, 0, none⟩) av.length bQ) bX := (by rw [hw, dC.out]; exact ch.1); clear ch; have n0 := G.bg ac hg (Kd.R_ne aI.out ac.out (by decide)); have n1 := G.m (hp_); have n2 := G.m ((by rw [hw]; exact below_set (HB.out) dX.out : Below w.heap.size w dj)); clear ac aI HB; revert n0 n1 n2; intro ac aI HB; clear hg hw hp_) | ((with_reducible refine G.h 21 rfl ?_); refine Kd.R_lit (Kd.int .i64) _ 3 ?hg (N := 21) ?hd (xs := ([a1] : List Int)) (inner := [.int .i64 a1]) (ok := fun _ => True) (okp := fun _ => True) ?hr ?hp (fun _ hk => hk) trivial (Below.refl _ _) (Nat.le_refl _) (by simp) ?_; (case hd => rfl); (case hg => rfl); (case hr => first | (go_simp; done) | (go_simp; rfl)); (case hp => exact (Reps.one (show Kd.M (Kd.int .i64) _ _ _ a1 [.int .i64 a1] from rfl) (Reps.none _ _))); intro e4 fj bF hb hg_ hnew_; clear hg_ hnew_; (first | rw [← cx.out] at bF | (simp only [Int.reduceToNat] at bF; rw [← cx.out] at bF)); have n0 := G.rb aI hb; have n1 := G.m (Kd.R_lower bF (below_size (G.cB HB.out))); have n2 := G.bb ac hb; have n3 := G.bs HB hb; clear aI ac HB; revert n0 n1 n2 n3; intro aI dG ac HB; clear hb bF))
      go_loopg [6] k (fun kq v6 w' => ∃ (aq : List Bool) (af : List Int), Aside0 (spec_WayReach.l0 kq aq af ab aa = some r) ∧ Aside0 (kq ≤ k) ∧ Aside0 (Kd.R Kd.bool 4 w' w.heap.size (fun _ => True) (.slice (some ⟨a7, 0, none⟩) av.length bQ) aq) ∧ Aside0 (Kd.Q (Kd.int .i64) 3 w' w.heap.size (fun _ => True) v6 af) ∧ Aside0 (w'.heap[aQ]? = some (.cells #[.int .i64 ab, (.slice al aa.length ak)] 30 (0, 0))) ∧ Aside0 (Below w.heap.size w w'))
      case atStart => exact ⟨(bX), (di), H', ⟨Nat.le_refl _⟩, ⟨G.cR aI.out⟩, ⟨Kd.Q_of_R (G.cR dG.out)⟩, ⟨G.cb ac.out⟩, ⟨G.cB HB.out⟩⟩
      case round =>
       clear H'; (try clear c4 ce d_ bU ea eb cf p9 q9 bI bJ bM bN bK bL bO bP dF); obtain ⟨aq, af, HA, aW, ai, ap, ac, HB⟩ := hrel; have au := (Kd.R_reads' ai.out).1; rw [au] at ai; (try simp only [au]); (try simp only [au] at ac); (try simp only [au] at ap); cases gk with
       | zero => exact absurd HA.out (by simp [spec_WayReach.l0])
       | succ k1 =>
        have H := HA.out; clear HA; simp only [spec_WayReach.l0] at H
        by_cases bR : (af.length : Int) > 0
        ·rw [if_pos bR] at H; have cy : decide (0 < (af.length : Int)) = true := decide_eq_true bR; have cz : decide (0 < af.length) = true := decide_eq_true (by omega); clear bR
         by_cases cA : 0 < (af.length : Int)
         ·rw [if_pos cA] at H; have dH : decide (0 < (af.length : Int)) = true := decide_eq_true cA; have dI : decide (0 < af.length) = true := decide_eq_true (by omega); clear cA; obtain ⟨ag, eI, H⟩ := G.bi H; replace H : (if 1 ≤ (af.length : Int) then (spec_WayReach.l1 k1 aq (af.drop (1 : Int).toNat) ag 0 ab aa) else (none)) = some r := H
          by_cases ca : 1 ≤ (af.length : Int)
          ·rw [if_pos ca] at H; have dJ := eq_true ca; have dK : decide (1 ≤ (af.length : Int)) = true := decide_eq_true ca; clear ca; obtain ⟨bd, bu⟩ : ∃ y_ : List Int, y_ = (af.drop (1 : Int).toNat) := ⟨_, rfl⟩; replace H : (spec_WayReach.l1 k1 aq bd ag 0 ab aa) = some r := by first | (rw [bu]; with_reducible exact H) | (have am := (Option.bind_some _ _).symm.trans H; rw [bu]; with_reducible exact am) | (have am := (Option.bind_some _ _).symm.trans H; with_reducible exact am) | with_reducible exact H | (rw [bu]; exact H) | exact H
           have cD := G.m bu; clear bu; have H' := G.m H; clear H; obtain ⟨e5, bY, ec, _⟩ := Kd.Q_slice ap.out; subst ec; try go_wp2
           have n0 := G.m (Kd.R_drew ai.out); have n1 := G.m (Kd.Q_drew ap.out); have n2 := G.m (blk_drew ac.out); have n3 := G.m (below_drew1 HB.out); clear ai ap ac HB; revert n0 n1 n2 n3; intro ai ap ac HB; have bZ : 0 ≤ (0 : Int) := (by omega); have b1 : 0 < (af.length : Int) := of_decide_eq_true (G.asm); obtain ⟨a_, ed, a4⟩ := Kd.at_int (Kd.Q_reads' ap.out).2.2 0 bZ b1; cases ed; have eU : (0 < af.length) = True := eq_true (by omega); (try rw [show ((0 : Int)).toNat = 0 from rfl] at a4); (try rw [Addr.add_zero'] at a4); replace bZ := eq_true bZ; replace b1 := eq_true b1; refine start_ (n := 6) (S := fun w' => w'.cell? ⟨aQ, 0, none⟩ = some (.int .i64 ab) ∧ w'.cell? ⟨aQ, 1, none⟩ = some (.slice al aa.length ak) ∧ w'.cell? a_ = some (.int .i64 (rd af 0))) (ds := []) (G.fl 6 0) (caau) rfl (caau) ⟨G.z ac 0, G.z ac 1, a4⟩ (fun hHeld => ?_); generalize wr.drew = fk at ai ap ac HB a4 hHeld ⊢; refine G.pu 1 26 2 ?_; refine G.pu 2 27 6 ?_; refine G.ta3 0 25 7 ?_; refine G.ta3 3 28 15 ?_; refine one_ (i := 4) (N := some 29) (G.fl 6 31) rfl rfl (caau) (by decide) (fun K hK => ?_); refine G.gs Try.func73 #[.agg #[.int .i64 ab, .slice al aa.length ak], .int .i64 (rd af 0)] ?_; with_reducible refine (spec_l2Next.calls k1 ab _ _ aa (rd af 0) ag _ ?side1 ?side2 eI.out).mono ?_
           (case side1 => exact G.cC (Kd.C_below aE.out HB.out)); (case side2 => exact aJ.out); rintro e eJ ⟨b2, rfl, dk, hb⟩; have ee := (hb.cell (World.block_lt_of_cell? _ _ (hHeld.2.2))).trans (hHeld.2.2); refine ⟨_, rfl, ?_⟩; have n0 := G.rb ai hb; have n1 := G.m (Kd.Q_elder' (caaw) (Kd.R_base dk) hb); have n2 := G.m (Kd.R_lower (Kd.R_new' dk (Kd.Q_lt (caaw))) (below_size (G.cB HB.out))); have n3 := G.bb ac hb; have n4 := G.bs HB hb; clear ai ap ac HB; revert n0 n1 n2 n3 n4; intro ai ap bC ac HB; (try clear hb fm hk hi dk); refine hK.out _ _ ⟨G.z ac 0, G.z ac 1, ee⟩ (fun hHeld => ?_); clear hK K; refine G.no 29 ?_; refine G.pu 5 7 63 ?_; refine done_ (caau) ?_; have n_ := G.m (Kd.Q_mono (ok' := (fun k_ => some k_ ≠ (b2 : Value).ownBlock)) ap.out (fun k_ hk => hk.2)); clear ap; have ap := n_; clear n_; have cE : (1 : Int) ≤ ((af.length : Int) : Int) := of_decide_eq_true (G.asm); obtain ⟨e6, cF, _, cG, _⟩ := info_parts info3; have dl := cut_from (P := Try.prog) 25 3 .i64 Try.underlying25 cF 1 cG (some a_) af.length bY 1 (by omega) cE; have bG := Kd.Q_drop (k := (1 : Int).toNat) ap.out (by omega); obtain ⟨dn, b3⟩ : ∃ A1, A1 = (if bY = (1 : Int).toNat then (some a_) else ((some a_) : Option Addr).map (·.add ((1 : Int).toNat * 1))) := ⟨_, rfl⟩; obtain ⟨cH, ci⟩ : ∃ c1, c1 = bY - (1 : Int).toNat := ⟨_, rfl⟩; have cj : bd.length = af.length - (1 : Int).toNat := (by rw [cD.out, List.length_drop]); rw [← cD.out] at bG; rw [← cj, ← b3, ← ci] at dl; replace bG : Kd.Q (Kd.int .i64) 3 eJ w.heap.size (fun k_ => some k_ ≠ (b2 : Value).ownBlock) (.slice dn bd.length cH) bd := (by rw [b3, ci, cj]; exact bG); have ef : Aside0 ((Value.slice dn bd.length cH).ownBlock = (.slice (some a_) af.length bY : Value).ownBlock) := ⟨by rw [b3]; split <;> (cases ((some a_) : Option Addr) <;> rfl)⟩; clear cj cF cG ap b3 ci; have dL := G.m bG; clear bG; replace cE := eq_true cE; have n_ := G.m (Kd.R_mono (ok' := fun k_ => (True ∧ some k_ ≠ (.slice dn bd.length cH : Value).ownBlock)) bC.out (fun k_ hk => ⟨trivial, (by rw [ef.out]; exact hk.2)⟩)); clear bC; have bC := n_; clear n_; try go_wp2
           go_loopg [6, 8] k1 (fun kq v6 v8 w' => ∃ (ax : List Bool) (aD : List Int) (ae : Int), v8 = .int .i64 ae ∧ Aside0 (spec_WayReach.l1 kq ax aD ag ae ab aa = some r) ∧ Aside0 (kq ≤ k1) ∧ Aside0 (Kd.R Kd.bool 4 w' w.heap.size (fun _ => True) (.slice (some ⟨a7, 0, none⟩) aq.length bQ) ax) ∧ Aside0 (Kd.Q (Kd.int .i64) 3 w' w.heap.size (fun k_ => some k_ ≠ (b2 : Value).ownBlock) v6 aD) ∧ Aside0 (Kd.R (Kd.int .i64) 3 w' w.heap.size (fun k_ => some k_ ≠ (v6 : Value).ownBlock) b2 ag) ∧ Aside0 (w'.heap[aQ]? = some (.cells #[.int .i64 ab, (.slice al aa.length ak)] 30 (0, 0))) ∧ Aside0 (Below w.heap.size w w'))
           case atStart => exact ⟨(aq), (bd), (0), (caat), H', ⟨Nat.le_refl _⟩, ⟨by (try simp only [au]); (with_reducible repeat (first | apply Kd.R_alloc | apply Kd.R_drewN | apply Kd.R_drew)); exact ai.out⟩, ⟨by (try simp only [au]); (with_reducible repeat (first | apply Kd.Q_alloc | apply Kd.Q_drewN | apply Kd.Q_drew)); exact dL.out⟩, ⟨by (try simp only [au]); (with_reducible repeat (first | apply Kd.R_alloc | apply Kd.R_drewN | apply Kd.R_drew)); exact Kd.R_mono bC.out (fun _ hk => hk.2)⟩, ⟨by (try simp only [au]); (with_reducible repeat (first | refine blk_drewN ?_ _ | refine blk_drew ?_ | refine blk_alloc ?_ _)); exact ac.out⟩, ⟨G.cB HB.out⟩⟩
           case round =>
            clear H'; (try clear c1 cy cz dH dI dJ dK cH cE a4 bZ b1); obtain ⟨ax, aD, ae, rfl, HA, bS, ai, ap, ay, ac, HB⟩ := hrel; have aw := (Kd.R_reads' ai.out).1; rw [aw] at ai; (try simp only [aw]); (try simp only [aw] at ac); (try simp only [aw] at ap); (try simp only [aw] at ay); cases gk with
            | zero => exact absurd HA.out (by simp [spec_WayReach.l1])
            | succ k2 =>
             have H := HA.out; clear HA; simp only [spec_WayReach.l1] at H
             by_cases bT : ae < (ag.length : Int)
             ·rw [if_pos bT] at H; have dM : decide (ae < (ag.length : Int)) = true := decide_eq_true bT; clear bT
              by_cases cI : 0 ≤ ae
              ·rw [if_pos cI] at H; have eV : decide (0 ≤ ae) = true := decide_eq_true cI; clear cI
               by_cases cJ : 0 ≤ (rd ag ae)
               ·rw [if_pos cJ] at H; have eW : decide (0 ≤ (rd ag ae)) = true := decide_eq_true cJ; clear cJ
                by_cases cL : (rd ag ae) < (ax.length : Int)
                ·rw [if_pos cL] at H; have eX : decide ((rd ag ae) < (ax.length : Int)) = true := decide_eq_true cL; clear cL; obtain ⟨dp, b4⟩ : ∃ b_ : Bool, b_ = (rdOf false ax (rd ag ae)) := ⟨_, rfl⟩; replace H : (if (dp = true) then (spec_WayReach.l1 k2 ax aD ag (wrap64 (ae + 1)) ab aa) else (if aD.length < 17592186044416 then (spec_WayReach.l1 k2 (ax.set ((rd ag ae) : Int).toNat true) (aD ++ [rd ag ae]) ag (wrap64 (ae + 1)) ab aa) else (none))) = some r := by rw [← b4] at H; exact H
                 have cM := G.m b4; clear b4
                 by_cases cN : (dp = true)
                 ·subst cN; have H1 : (spec_WayReach.l1 k2 ax aD ag (wrap64 (ae + 1)) ab aa) = some r := by rw [if_pos rfl] at H; exact H
                  clear H; have H := H1; clear H1; have H' := G.m H; clear H; obtain ⟨e7, e8, eg⟩ := Kd.R_slice ay.out; subst eg; have bf : 0 ≤ (ae : Int) := of_decide_eq_true (G.asm); have bh : ae < (ag.length : Int) := of_decide_eq_true (G.asm); obtain ⟨bD, ck, cX⟩ := Kd.at_int (Kd.R_reads' ay.out).2.2 ae bf bh; cases ck; replace bf := eq_true bf; replace bh := eq_true bh; have bj : 0 ≤ ((rd ag ae) : Int) := of_decide_eq_true (G.asm); have bk : (rd ag ae) < (ax.length : Int) := of_decide_eq_true (G.asm); obtain ⟨b5, cl, aC⟩ := Kd.at_bool (Kd.R_reads' ai.out).2.2 (rd ag ae) bj bk; (try rw [← cM.out] at aC); obtain rfl : (⟨a7, 0, none⟩ : Addr) = b5 := (by injection cl); (first | simp only [add_plain] at aC | simp only [add_at] at aC | simp only [Addr.add, Nat.zero_add] at aC | skip); replace bj := eq_true bj; replace bk := eq_true bk
                  go_wp2; (try simp only [← aw])
                  go_roundg k2
                  case measure => have := aW.out; have := bS.out; omega
                  case rel => exact ⟨(ax), (aD), (wrap64 (ae + 1)), (caat), H', ⟨by have := aW.out; have := bS.out; omega⟩, ⟨caay⟩, ⟨by (try simp only [au]); (try simp only [aw]); (with_reducible repeat (first | apply Kd.Q_alloc | apply Kd.Q_drewN | apply Kd.Q_drew)); exact ap.out⟩, ⟨by (try simp only [au]); (try simp only [aw]); (with_reducible repeat (first | apply Kd.R_alloc | apply Kd.R_drewN | apply Kd.R_drew)); exact ay.out⟩, ⟨caax⟩, ⟨G.cB HB.out⟩⟩
                 ·replace cN := Bool.eq_false_iff.mpr cN; subst cN; have H1 : (if aD.length < 17592186044416 then (spec_WayReach.l1 k2 (ax.set ((rd ag ae) : Int).toNat true) (aD ++ [rd ag ae]) ag (wrap64 (ae + 1)) ab aa) else (none)) = some r := by rw [if_neg (show ¬ (false = true) by decide)] at H; exact H
                  clear H; have H := H1; clear H1; obtain ⟨b6, bv⟩ : ∃ y_ : List Bool, y_ = (ax.set ((rd ag ae) : Int).toNat true) := ⟨_, rfl⟩; replace H : (if aD.length < 17592186044416 then (spec_WayReach.l1 k2 b6 (aD ++ [rd ag ae]) ag (wrap64 (ae + 1)) ab aa) else (none)) = some r := by first | (rw [bv]; with_reducible exact H) | (have am := (Option.bind_some _ _).symm.trans H; rw [bv]; with_reducible exact am) | (have am := (Option.bind_some _ _).symm.trans H; with_reducible exact am) | with_reducible exact H | (rw [bv]; exact H) | exact H
                  have dN := G.m bv; clear bv
                  by_cases cO : aD.length < 17592186044416
                  ·rw [if_pos cO] at H; have dO := G.m cO; clear cO; obtain ⟨dq, bw⟩ : ∃ y_ : List Int, y_ = (aD ++ [rd ag ae]) := ⟨_, rfl⟩; replace H : (spec_WayReach.l1 k2 b6 dq ag (wrap64 (ae + 1)) ab aa) = some r := by first | (rw [bw]; with_reducible exact H) | (have am := (Option.bind_some _ _).symm.trans H; rw [bw]; with_reducible exact am) | (have am := (Option.bind_some _ _).symm.trans H; with_reducible exact am) | with_reducible exact H | (rw [bw]; exact H) | exact H
                   have dP := G.m bw; clear bw; have H' := G.m H; clear H; obtain ⟨e9, eh, ei⟩ := Kd.R_slice ay.out; subst ei; have bf : 0 ≤ (ae : Int) := of_decide_eq_true (G.asm); have bh : ae < (ag.length : Int) := of_decide_eq_true (G.asm); obtain ⟨bD, ck, cX⟩ := Kd.at_int (Kd.R_reads' ay.out).2.2 ae bf bh; cases ck; replace bf := eq_true bf; replace bh := eq_true bh; have bj : 0 ≤ ((rd ag ae) : Int) := of_decide_eq_true (G.asm); have bk : (rd ag ae) < (ax.length : Int) := of_decide_eq_true (G.asm); obtain ⟨b5, cl, aC⟩ := Kd.at_bool (Kd.R_reads' ai.out).2.2 (rd ag ae) bj bk; (try rw [← cM.out] at aC); obtain rfl : (⟨a7, 0, none⟩ : Addr) = b5 := (by injection cl); (first | simp only [add_plain] at aC | simp only [add_at] at aC | simp only [Addr.add, Nat.zero_add] at aC | skip); replace bj := eq_true bj; replace bk := eq_true bk; have cm : 0 ≤ (ae : Int) := of_decide_eq_true (G.asm); have cn : ae < (ag.length : Int) := of_decide_eq_true (G.asm); obtain ⟨dQ, ej, ew⟩ := Kd.at_int (Kd.R_reads' ay.out).2.2 ae cm cn; obtain rfl : bD = dQ := (by injection ej); replace cm := eq_true cm; replace cn := eq_true cn; have dr : 0 ≤ ((rd ag ae) : Int) := of_decide_eq_true (G.asm); have dt : ((rd ag ae) : Int) < ((ax.length : Int) : Int) := of_decide_eq_true (G.asm); obtain ⟨eK, eL⟩ := Kd.R_celln false ai.out ((rd ag ae) : Int) dr dt; replace dr := eq_true dr; replace dt := eq_true dt; have co := Kd.R_putg ai.out ((rd ag ae) : Int) true
                   go_wp2_with (first | ((with_reducible refine gate_store (t := 4) (p := 51) rfl ?_); refine store_event (t := 4) (p := 51) (v := ?vo_w39) (w1 := (wr.setCell ⟨a7, ((rd ag ae) : Int).toNat, none⟩ (.bool true))) ?hg ?ho ?hn ?hr ?_; (case ho => rfl); (case hg => rfl); (case hn => rfl); (case hr => first | (go_simp; done) | (go_simp; rfl)); intro du hw; have hg : wr.grownBy du (some a7) := (by rw [hw]; exact co.2); have hp_ : Kd.R Kd.bool 4 du w.heap.size (fun _ => True) (.slice (some ⟨a7, 0, none⟩) ax.length bQ) b6 := (by rw [hw, dN.out]; exact co.1); clear co; have n0 := G.m (hp_); have n1 := G.m (Kd.Q_over' (v := (.slice (some ⟨a7, 0, none⟩) ax.length bQ)) (caaw) (Kd.R_typed ai.out) (by decide) hg); have n2 := G.m (Kd.R_over' (v := (.slice (some ⟨a7, 0, none⟩) ax.length bQ)) (G.cR ay.out) (Kd.R_typed ai.out) (by decide) hg); have n3 := G.bg ac hg (Kd.R_ne ai.out ac.out (by decide)); have n4 := G.m ((by rw [hw]; exact below_set (HB.out) dX.out : Below w.heap.size w du)); clear ai ap ay ac HB; revert n0 n1 n2 n3 n4; intro ai ap ay ac HB; clear hg hw hp_; have cp : 0 ≤ (ae : Int) := of_decide_eq_true (G.asm); have cq : ae < (ag.length : Int) := of_decide_eq_true (G.asm); obtain ⟨dR, ek, ex⟩ := Kd.at_int (Kd.R_reads' ay.out).2.2 ae cp cq; obtain rfl : bD = dR := (by injection ek); replace cp := eq_true cp; replace cq := eq_true cq) | ((with_reducible refine gate_builtin (b := .append) (xs := #[.tmp 52, .tmp 57]) rfl ?_); at_builtin; refine Kd.Q_append (Kd.int .i64) (w0 := w) w.heap.size rfl (.tmp 52) (.tmp 57) 25 3 (.int .i64 0) 8 rfl Try.underlying25 info3 rfl (by decide) (by omega) u6 aD (rd ag ae) [.int .i64 (rd ag ae)] (fun k_ => some k_ ≠ (.slice (some bD) ag.length eh : Value).ownBlock) (fun _ => False) rfl rfl ?aP (fun _ hk => hk.elim) ?aF ?aO ?aB ?aS ?aL ?_; (case aP => exact rfl); (case aB => exact (G.cB HB.out)); (case aF => exact (fun k_ hk => Kd.fresh' (Kd.R_lt (G.cR ay.out)) k_ hk)); (case aO => exact (caaw)); (case aS => exact (below_size (G.cB HB.out))); (case aL => have := dO.out; omega); intro fa fo ho hb hg hat; rw [← dP.out] at ho; have n0 := G.m (Kd.R_over' (G.cR ai.out) (Kd.Q_typed (caaw)) (by decide) hg); have n1 := G.m (Kd.R_after (ok := (fun _ => True)) (by (with_reducible repeat (first | apply Kd.R_alloc | apply Kd.R_drewN | apply Kd.R_drew)); exact Kd.R_mono ay.out (fun _ hk => ⟨trivial, hk⟩)) hg hat); have n2 := G.bg ac hg (Kd.Q_ne ap.out ac.out (by decide)); have n3 := G.m (hb); have n4 := G.m (ho); clear ai ay ac HB ap; revert n0 n1 n2 n3 n4; intro ai ay ac HB dS; clear ho hb hg hat))
                   (try simp only [← aw])
                   go_roundg k2
                   case measure => have := aW.out; have := bS.out; omega
                   case rel => exact ⟨(b6), (dq), (wrap64 (ae + 1)), (caat), H', ⟨by have := aW.out; have := bS.out; omega⟩, ⟨caay⟩, ⟨by (try simp only [au]); (try simp only [aw]); (with_reducible repeat (first | apply Kd.Q_alloc | apply Kd.Q_drewN | apply Kd.Q_drew)); exact dS.out⟩, ⟨by (try simp only [au]); (try simp only [aw]); (with_reducible repeat (first | apply Kd.R_alloc | apply Kd.R_drewN | apply Kd.R_drew)); exact Kd.R_mono ay.out (fun _ hk => hk.2)⟩, ⟨caax⟩, ⟨G.cB HB.out⟩⟩
                  ·rw [if_neg cO] at H; exact absurd H (by simp)
                ·rw [if_neg cL] at H; exact absurd H (by simp)
               ·rw [if_neg cJ] at H; exact absurd H (by simp)
              ·rw [if_neg cI] at H; exact absurd H (by simp)
             ·rw [if_neg bT] at H; have dM : decide (ae < (ag.length : Int)) = false := decide_eq_false bT; clear bT; have H' := G.m H; clear H; obtain ⟨fb, fc, el⟩ := Kd.R_slice ay.out; subst el
              go_wp2; (try simp only [← au, ← aw])
              go_roundg k2
              case measure => have := aW.out; have := bS.out; omega
              case rel => exact ⟨(ax), (aD), H', ⟨by have := aW.out; have := bS.out; omega⟩, ⟨caay⟩, ⟨by (try simp only [au]); (try simp only [aw]); (with_reducible repeat (first | apply Kd.Q_alloc | apply Kd.Q_drewN | apply Kd.Q_drew)); exact Kd.Q_mono ap.out (fun _ hk => trivial)⟩, ⟨caax⟩, ⟨G.cB HB.out⟩⟩
          ·rw [if_neg ca] at H; exact absurd H (by simp)
         ·rw [if_neg cA] at H; exact absurd H (by simp)
        ·rw [if_neg bR] at H; have cy : decide (0 < (af.length : Int)) = false := decide_eq_false bR; have cz : decide (0 < af.length) = false := decide_eq_false (by omega); clear bR; obtain rfl := Option.some.inj H; obtain ⟨fd, fe, em, _⟩ := Kd.Q_slice ap.out; subst em
         go_wp2
         go_ret
         exact ⟨_, by first | rfl | (simp [errW_none, errW_some] <;> rfl) | (simp [*, errW_none, errW_some] <;> rfl), G.cR ai.out, G.cB HB.out⟩
     ·rw [if_neg c8] at H; exact absurd H (by simp)
    ·rw [if_neg c7] at H; exact absurd H (by simp)
   ·rw [if_neg c6] at H; exact absurd H (by simp)
  ·rw [if_neg c5] at H; exact absurd H (by simp)
 ·replace c4 := Bool.eq_false_iff.mpr c4; subst c4; have H1 : (some (([] : List Bool))) = some r := by rw [if_neg (show ¬ (false = true) by decide)] at H; exact H
  clear H; have H := H1; clear H1; obtain ⟨en, bx⟩ : ∃ y_ : List Bool, y_ = (([] : List Bool)) := ⟨_, rfl⟩; replace H : (some en) = some r := by first | (rw [bx]; with_reducible exact H) | (have am := (Option.bind_some _ _).symm.trans H; rw [bx]; with_reducible exact am) | (have am := (Option.bind_some _ _).symm.trans H; with_reducible exact am) | with_reducible exact H | (rw [bx]; exact H) | exact H
  have cP := G.m bx; clear bx; obtain rfl := Option.some.inj H
  go_enter Try.func56, Try.ntmps56
  go_wp2_with (first | ((with_reducible refine G.h 2 rfl ?_); refine G.be 2 #[.int .i64 ab, .slice al aa.length ak] 30 ?_; intro aQ hg eM hbox hb; have n0 := G.bs HB hb; have n1 := G.m (hbox); have n2 := G.m (caas : w.heap.size ≤ aQ); have n3 := G.m (caas : w.heap.size ≤ aQ); clear HB; revert n0 n1 n2 n3; intro HB ac dD dE; clear hb hbox hg; have ⟨ey, ez, eA, eB⟩ := G.d2 (w := eM) ac) | ((with_reducible refine G.f 71 rfl ?_); refine G.gL 11 Try.func71 #[.agg #[.int .i64 ab, .slice al aa.length ak], .int .i64 a1] ?_; (with_reducible refine (spec_l1Knot.calls k ab _ _ aa a1 false _ ?side1 ?side2 A3.out).mono ?_); (case side1 => exact G.cC (Kd.C_below aE.out HB.out)); (case side2 => exact aJ.out); rintro e fp ⟨rfl, hb⟩; refine ⟨_, rfl, ?_⟩; have n0 := G.bb ac hb; have n1 := G.bs HB hb; clear ac HB; revert n0 n1; intro ac HB; (try clear hb)) | ((with_reducible refine G.h 13 rfl ?_); refine Kd.R_lit Kd.bool _ 4 ?hg (N := 13) ?hd (xs := ([] : List Bool)) (inner := []) (ok := fun _ => True) (okp := fun _ => True) ?hr ?hp (fun _ hk => hk) trivial (Below.refl _ _) (Nat.le_refl _) (by simp) ?_; (case hd => rfl); (case hg => rfl); (case hr => first | (go_simp; done) | (go_simp; rfl)); (case hp => exact (Reps.none _ _)); intro ff fq bH hb hg_ hnew_; clear hg_ hnew_; (first | rw [← cP.out] at bH | (simp only [Int.reduceToNat] at bH; rw [← cP.out] at bH)); have n0 := G.m (Kd.R_lower bH (below_size (G.cB HB.out))); have n1 := G.bb ac hb; have n2 := G.bs HB hb; clear ac HB; revert n0 n1 n2; intro dT ac HB; clear hb bH))
  go_ret
  exact ⟨_, by first | rfl | (simp [errW_none, errW_some] <;> rfl) | (simp [*, errW_none, errW_some] <;> rfl), G.cR dT.out, G.cB HB.out⟩

end Go.Proofs.Ytddadihobjinhaa.P
