-- Printed by a program of this session (mp.py, over the kit's print). Not trusted: Lean checks it.
import Derived.Test.YtjkeagcenmmknaaDoorF0
import Derived.Test.YtjkeagcenmmknaaDoorF1
import Derived.Test.YtjkeagcenmmknaaDoorF2
namespace Go.Proofs.YtjkeagcenmmknaaDoor.P
open Go.RowKit Go.Proofs.YtjkeagcenmmknaaDoorW.PrintWords Go.Proofs.YtjkeagcenmmknaaDoorW.PrintLast Go.Proofs.YtjkeagcenmmknaaDoorW.PrintMore
attribute [local go_sem] max2_int min2_int max_two min_two max_three min_three max_four min_four   -- for this text's walks alone
set_option linter.unusedVariables false
set_option linter.unusedSimpArgs false

theorem caay {p : Prop} (h : p := by first | rfl | (simp [errW_none, errW_some] <;> rfl) | (simp [*, errW_none, errW_some] <;> rfl)) : p := h
theorem caax {p : Prop} (h : p := by rw [hg]; exact (below_size (G.cB HB.out))) : p := h
theorem caaz {p : Prop} (h : p := by kernel_rfl) : p := h
attribute [local go_sem high] eqA51
/-! ### spec_l1Copy: function 76 -/
def spec_l1Copy.f (ac : Int) (aa : List (S51)) : Option (Int × (List (S51))) := (some (([] : List (S51)) : List (S51))).bind fun aq => (if aq.length + aa.length < 8796093022208 then (some (ac, (aq ++ aa))) else (none))
def spec_l1Copy.T1 : Bool × List (List Nat × List Nat) := (true, [([], []), ([0], [0]), ([], []), ([], []), ([3], [3]), ([2, 4], [2, 4]), ([1, 5], [1, 5]), ([6, 5, 0, 1, 2, 3, 4, 5, 6], [6])])
def spec_l1Copy.B1 : List Nat := [0, 1, 0, 0, 8, 28, 63, 127]
theorem spec_l1Copy.tab1 : rtab .any (opsOf Tryd.f76 1) = spec_l1Copy.T1 := by kernel_rfl
theorem spec_l1Copy.bits1 : waitsOk spec_l1Copy.T1.2 spec_l1Copy.B1 = true := by kernel_rfl
set_option maxHeartbeats 8000000 in
set_option maxRecDepth 100000 in
theorem spec_l1Copy.calls (ac : Int) (ai : Option Addr) (ah : Nat) (aa : List (S51)) (r1 : Int) (r2 : List (S51)) (w : World) (aw : Kd.C k51 w ai aa.length aa) (ax : aa.length ≤ ah) (h : spec_l1Copy.f ac aa = some (r1, r2)) :
  Calls Tryd.prog 76 #[.agg #[.int .i64 ac, .slice ai aa.length ah]] w fun e w' => ∃ bq : Value, e = .returned (.agg #[.int .i64 r1, bq]) ∧ Kd.R k51 51 w' w.heap.size (fun _ => True) bq r2 ∧ Below w.heap.size w w' := by
 have a9 := Tryd.underlying29; have aD := G.m aw; have aU := G.m ax; clear aw ax; have HB := G.m (Below.refl w.heap.size w); have H : ((some (([] : List (S51)) : List (S51))).bind fun aq => (if aq.length + aa.length < 8796093022208 then (some (ac, (aq ++ aa))) else (none))) = some (r1, r2) := h; clear h; obtain ⟨aq, aK⟩ : ∃ y_ : List (S51), y_ = (([] : List (S51))) := ⟨_, rfl⟩; replace H : (if aq.length + aa.length < 8796093022208 then (some (ac, (aq ++ aa))) else (none)) = some (r1, r2) := by first | (rw [aK]; with_reducible exact H) | (have aW := (Option.bind_some _ _).symm.trans H; rw [aK]; with_reducible exact aW) | (have aW := (Option.bind_some _ _).symm.trans H; with_reducible exact aW) | with_reducible exact H | (rw [aK]; exact H) | exact H
 have a5 := G.m aK; clear aK
 by_cases c2 : aq.length + aa.length < 8796093022208
 ·rw [if_pos c2] at H; have bB := G.m c2; clear c2; obtain ⟨aZ, aM⟩ : ∃ y_ : List (S51), y_ = (aq ++ aa) := ⟨_, rfl⟩; replace H : (some (ac, aZ)) = some (r1, r2) := by first | (rw [aM]; with_reducible exact H) | (have aW := (Option.bind_some _ _).symm.trans H; rw [aM]; with_reducible exact aW) | (have aW := (Option.bind_some _ _).symm.trans H; with_reducible exact aW) | with_reducible exact H | (rw [aM]; exact H) | exact H
  have bl := G.m aM; clear aM; simp only [Option.some.injEq, Prod.mk.injEq] at H; obtain ⟨rfl, rfl⟩ := H
  go_enter Tryd.func76, Tryd.ntmps76; try go_wp2_with (first | ((with_reducible refine G.h 1 rfl ?_); refine G.be 1 #[.int .i64 ac, .slice ai aa.length ah] 29 ?_; intro ay hg w3 hbox hb; have n0 := G.bs HB hb; have n1 := G.m (hbox); have n2 := G.m (caax : w.heap.size ≤ ay); have n3 := G.m (caax : w.heap.size ≤ ay); clear HB; revert n0 n1 n2 n3; intro HB af b7 b8; clear hb hbox hg) | ((with_reducible refine G.h 2 rfl ?_); refine G.be 2 #[.int .i64 0, .slice none 0 0] 29 ?_; intro aj hg w4 hbox hb; have n0 := G.bb af hb; have n1 := G.bs HB hb; have n2 := G.m (hbox); have n3 := G.m (caax : w.heap.size ≤ aj); have n4 := G.m (caax : w.heap.size ≤ aj); have n5 := G.m ((by rw [hg]; exact Nat.ne_of_lt (blk_lt (g := ay) (o := .cells #[.int .i64 ac, .slice ai aa.length ah] 29 (0, 0)) (G.cb af.out)) : ay ≠ aj)); have n6 := G.m ((by rw [hg]; exact Nat.ne_of_gt (blk_lt (g := ay) (o := .cells #[.int .i64 ac, .slice ai aa.length ah] 29 (0, 0)) (G.cb af.out)) : aj ≠ ay)); clear af HB; revert n0 n1 n2 n3 n4 n5 n6; intro af HB ag b9 b_ am aT; clear hb hbox hg))
  have n0 := G.m (blk_drew af.out); have n1 := G.m (blk_drew ag.out); have n2 := G.m (below_drew1 HB.out); clear af ag HB; revert n0 n1 n2; intro af ag HB; refine G.st 8 (S := fun w' => w'.cell? ⟨ay, 0, none⟩ = some (.int .i64 ac) ∧ w'.cell? ⟨ay, 1, none⟩ = some (.slice ai aa.length ah)) [] ⟨G.z af 0, G.z af 1⟩ spec_l1Copy.tab1 spec_l1Copy.bits1 (fun hHeld HT_ HW_ => ?_); generalize w4.drew = w5 at af ag HB hHeld ⊢; refine G.pu 0 3 1 ?_; refine G.pu 3 6 9 ?_; refine G.ta2 1 4 11 ?_; refine G.ta2 4 7 27 ?_; refine G.on 2 5 31 (fun K hK => ?_); refine Kd.R_lit_step k51 _ 51 ?hg (N := 5) ?hd (xs := ([] : List (S51))) (inner := []) (ok := fun _ => True) (okp := fun _ => True) ?hr ?hp (fun _ hk => hk) trivial (Below.refl _ _) (Nat.le_refl _) (by simp) ?_; (case hd => rfl); (case hg => rfl); (case hr => first | (go_simp; done) | (go_simp; rfl)); (case hp => exact (Reps.none _ _)); intro bC w6 aX hb hg_ hnew_; clear hg_ hnew_; (first | rw [← a5.out] at aX | (simp only [Int.reduceToNat] at aX; rw [← a5.out] at aX)); have n0 := G.m (Kd.R_lower aX (below_size (G.cB HB.out))); have n1 := G.bb af hb; have n2 := G.bb ag hb; have n3 := G.bs HB hb; clear af ag HB; revert n0 n1 n2 n3; intro aV af ag HB; clear hb aX; refine hK.out _ _ ⟨G.z af 0, G.z af 1⟩ (fun hHeld => ?_); clear hK K; refine G.no 5 ?_; refine G.on 5 8 63 (fun K hK => ?_); refine Kd.R_append_rows_step k51 (w0 := w) w.heap.size (by rfl) (.tmp 5) (.tmp 7) 27 51 (.agg #[(.int .i64 0), (.int .i64 0)]) 16 rfl Tryd.underlying27 info51 rfl (by decide) (by omega) bC aq aa _ _ _ (fun _ => True) (fun _ => False) rfl rfl ?aO ?aR (fun _ _ h => h) (fun _ h => h.elim) ?aF ?aB ?aS ?aL ?_; (case aR => exact G.cC (Kd.C_below aD.out HB.out)); (case aB => exact (G.cB HB.out)); (case aF => exact (fun _ _ => trivial)); (case aO => exact (G.cR aV.out)); (case aS => exact (below_size (G.cB HB.out))); (case aL => have := bB.out; omega); intro cg w8 ho hb hg hat; rw [← bl.out] at ho; have n0 := G.bg af hg (Kd.R_ne aV.out af.out (by decide)); have n1 := G.bg ag hg (Kd.R_ne aV.out ag.out (by decide)); have n2 := G.m (hb); have n3 := G.m (ho); clear af ag HB aV; revert n0 n1 n2 n3; intro af ag HB a6; clear ho hb hg hat; obtain ⟨br, bu, bv⟩ := Kd.R_slice a6.out; (first | subst bv | (injection bv with bw bZ bx; have b1 := bw.symm; have b2 := bx.symm; clear bw bZ bx; subst b1; subst b2)); refine hK.out _ _ ⟨G.z af 0, G.z af 1⟩ (fun hHeld => ?_); clear hK K; refine G.no 8 ?_; refine G.pu 6 9 127 ?_; refine G.onN 7 (none) (G.fl 8 255) (fun K hK => ?_); have ch : w8.cell? ⟨aj, 0, none⟩ = some (.int .i64 0) := G.z ag 0; have ca := blk_frozen ag.out 0; have bJ := am.out; have bK := aT.out; have ci : w8.cell? ⟨aj, 1, none⟩ = some (.slice none 0 0) := G.z ag 1; have cd := blk_frozen ag.out 1; have bL := am.out; have bM := aT.out; refine skip_ (w1 := ?_) (by rfl) rfl ?_ ?_; rotate_left
  ·go_simp
   rfl
  refine hK.out _ _ ⟨((cell_far (p := ⟨aj, _, none⟩) am.out _).trans (((cell_far (p := ⟨aj, _, none⟩) am.out _).trans (hHeld.1)))), ((cell_far (p := ⟨aj, _, none⟩) am.out _).trans (((cell_far (p := ⟨aj, _, none⟩) am.out _).trans (hHeld.2))))⟩ (fun hHeld => ?_); clear hK K; refine done_ (done_of HT_.out (caaz)) ?_; try go_wp2
  refine bodyPost_ret (results_cell_row rfl _ _ aj 29 #[.int .i64 ac, .slice br aZ.length bu] (0, 0) _ rfl (by (with_reducible repeat (first | refine blk_drewN ?_ _ | refine blk_drew ?_ | refine blk_alloc ?_ _)); refine blk_put (cs := #[.int .i64 ac, .slice none 0 0]) ?_ 1 _ rfl; (with_reducible repeat (first | refine blk_drewN ?_ _ | refine blk_drew ?_ | refine blk_alloc ?_ _)); refine blk_put (cs := #[.int .i64 0, .slice none 0 0]) ?_ 0 _ rfl; (with_reducible repeat (first | refine blk_drewN ?_ _ | refine blk_drew ?_ | refine blk_alloc ?_ _)); exact ag.out) Tryd.underlying29 rfl (caaz)) rfl ?_; exact ⟨_, by first | rfl | (simp [errW_none, errW_some] <;> rfl) | (simp [*, errW_none, errW_some] <;> rfl), by (with_reducible repeat (first | apply Kd.R_alloc | apply Kd.R_drewN | apply Kd.R_drew)); exact Kd.R_mono (Kd.R_far (p := ⟨aj, 1, none⟩) (Kd.R_far (p := ⟨aj, 0, none⟩) (Kd.R_types a6.out ag.out (by decide)) (fun _ hk => hk.2) (.int .i64 ac)) (fun _ hk => hk.2) (.slice br aZ.length bu)) (fun _ hk => trivial), G.cB HB.out⟩
 ·rw [if_neg c2] at H; exact absurd H (by simp)

/-! ### spec_l1Knot: function 93 -/
def spec_l1Knot.f (k : Nat) (ac : Int) (aa : List (S51)) (a1 : Int) : Option (Bool) := (spec_NetOk.f k ac aa).bind fun aQ => (if aQ = true then ((spec_l6In.f a1 0 (wrap64 (ac - 1))).bind fun az => (some az)) else (some false))
theorem spec_l1Knot.mono : ∀ a0 a1 a2 k, LeO (spec_l1Knot.f k a0 a1 a2) (spec_l1Knot.f (k + 1) a0 a1 a2) := by
 intro a0 a1 a2 k; unfold spec_l1Knot.f
 repeat' first | (with_reducible first | exact spec_NetOk.mono _ _ _ | exact LeO.refl _ | exact LeO.none _ | refine LeO.ite ?_ ?_ | refine LeO.bind ?_ (fun _ => ?_)) | exact spec_NetOk.mono _ _ _ | exact LeO.none _ | refine LeO.ite ?_ ?_ | refine LeO.bind ?_ (fun _ => ?_)
set_option maxHeartbeats 8000000 in
set_option maxRecDepth 100000 in
theorem spec_l1Knot.calls (k : Nat) (ac : Int) (ai : Option Addr) (ah : Nat) (aa : List (S51)) (a1 : Int) (r : Bool) (w : World) (aw : Kd.C k51 w ai aa.length aa) (ax : aa.length ≤ ah) (h : spec_l1Knot.f k ac aa a1 = some r) :
  Calls Tryd.prog 93 #[.agg #[.int .i64 ac, .slice ai aa.length ah], .int .i64 a1] w fun e w' => e = .returned (.bool r) ∧ Below w.heap.size w w' := by
 have a9 := Tryd.underlying29; have aD := G.m aw; have aU := G.m ax; clear aw ax; have HB := G.m (Below.refl w.heap.size w); have H : ((spec_NetOk.f k ac aa).bind fun aQ => (if aQ = true then ((spec_l6In.f a1 0 (wrap64 (ac - 1))).bind fun az => (some az)) else (some false))) = some r := h; clear h; obtain ⟨aQ, A3, H⟩ := G.bi H; replace H : (if aQ = true then ((spec_l6In.f a1 0 (wrap64 (ac - 1))).bind fun az => (some az)) else (some false)) = some r := H
 by_cases c4 : aQ = true
 ·subst c4; have H1 : ((spec_l6In.f a1 0 (wrap64 (ac - 1))).bind fun az => (some az)) = some r := by rw [if_pos rfl] at H; exact H
  clear H; have H := H1; clear H1; obtain ⟨az, A5, H⟩ := G.bi H; replace H : (some az) = some r := H; obtain rfl := Option.some.inj H
  go_enter Tryd.func93, Tryd.ntmps93
  go_wp2_with (first | ((with_reducible refine G.h 2 rfl ?_); refine G.be 2 #[.int .i64 ac, .slice ai aa.length ah] 29 ?_; intro aN hg w6 hbox hb; have n0 := G.bs HB hb; have n1 := G.m (hbox); have n2 := G.m (caax : w.heap.size ≤ aN); have n3 := G.m (caax : w.heap.size ≤ aN); clear HB; revert n0 n1 n2 n3; intro HB ao bm bn; clear hb hbox hg; have ⟨a_, ba, bc, bd⟩ := G.d2 (w := w6) ao) | ((with_reducible refine G.f 38 rfl ?_); refine G.gL 6 Tryd.func38 #[.agg #[.int .i64 ac, .slice ai aa.length ah]] ?_; (with_reducible refine (spec_NetOk.calls k ac _ _ aa true _ ?side1 ?side2 A3.out).mono ?_); (case side1 => exact G.cC (Kd.C_below aD.out HB.out)); (case side2 => exact aU.out); rintro e w8 ⟨rfl, hb⟩; refine ⟨_, rfl, ?_⟩; have n0 := G.bb ao hb; have n1 := G.bs HB hb; clear ao HB; revert n0 n1; intro ao HB; (try clear hb); have ⟨bf, bh, bj, bk⟩ := G.d2 (w := w8) ao) | (go_at_call 64; (with_reducible refine (spec_l6In.calls a1 0 (wrap64 (ac - 1)) az _ A5.out).mono ?_); rintro e w' ⟨rfl, ⟨nd, rfl⟩⟩))
  go_ret
  exact ⟨caay, G.cB HB.out⟩
 ·replace c4 := Bool.eq_false_iff.mpr c4; subst c4; have H1 : (some false) = some r := by rw [if_neg (show ¬ (false = true) by decide)] at H; exact H
  clear H; have H := H1; clear H1; obtain rfl := Option.some.inj H
  go_enter Tryd.func93, Tryd.ntmps93
  go_wp2_with (first | ((with_reducible refine G.h 2 rfl ?_); refine G.be 2 #[.int .i64 ac, .slice ai aa.length ah] 29 ?_; intro aN hg bz hbox hb; have n0 := G.bs HB hb; have n1 := G.m (hbox); have n2 := G.m (caax : w.heap.size ≤ aN); have n3 := G.m (caax : w.heap.size ≤ aN); clear HB; revert n0 n1 n2 n3; intro HB ao bm bn; clear hb hbox hg; have ⟨bN, bO, bP, bQ⟩ := G.d2 (w := bz) ao) | ((with_reducible refine G.f 38 rfl ?_); refine G.gL 6 Tryd.func38 #[.agg #[.int .i64 ac, .slice ai aa.length ah]] ?_; (with_reducible refine (spec_NetOk.calls k ac _ _ aa false _ ?side1 ?side2 A3.out).mono ?_); (case side1 => exact G.cC (Kd.C_below aD.out HB.out)); (case side2 => exact aU.out); rintro e cl ⟨rfl, hb⟩; refine ⟨_, rfl, ?_⟩; have n0 := G.bb ao hb; have n1 := G.bs HB hb; clear ao HB; revert n0 n1; intro ao HB; (try clear hb)))
  go_ret
  exact ⟨caay, G.cB HB.out⟩

/-! ### spec_l1Tie: function 84 -/
def spec_l1Tie.f (a0 : Int) (a1 : Int) : Option (Int × Int) := if a0 < a1 then (some (a0, a1)) else (some (a1, a0))
set_option maxHeartbeats 8000000 in
set_option maxRecDepth 100000 in
theorem spec_l1Tie.calls (a0 : Int) (a1 : Int) (r1 : Int) (r2 : Int) (w : World) (h : spec_l1Tie.f a0 a1 = some (r1, r2)) :
  Calls Tryd.prog 84 #[.int .i64 a0, .int .i64 a1] w fun e w' => e = .returned (.agg #[.int .i64 r1, .int .i64 r2]) ∧ Below w.heap.size w w' := by
 have bD := Tryd.underlying51; have HB := G.m (Below.refl w.heap.size w); have H : (if a0 < a1 then (some (a0, a1)) else (some (a1, a0))) = some (r1, r2) := h; clear h
 by_cases c3 : a0 < a1
 ·rw [if_pos c3] at H; have bE : decide (a0 < a1) = true := decide_eq_true c3; clear c3; simp only [Option.some.injEq, Prod.mk.injEq] at H; obtain ⟨rfl, rfl⟩ := H
  go_enter Tryd.func84, Tryd.ntmps84
  go_wp2_with (first | ((with_reducible refine G.h 4 rfl ?_); refine G.be 4 #[.int .i64 0, .int .i64 0] 51 ?_; intro aE hg w4 hbox hb; have n0 := G.bs HB hb; have n1 := G.m (hbox); have n2 := G.m (caax : w.heap.size ≤ aE); have n3 := G.m (caax : w.heap.size ≤ aE); clear HB; revert n0 n1 n2 n3; intro HB aP bo bp; clear hb hbox hg; have ⟨b3, b4, b5, b6⟩ := G.d2 (w := w4) aP))
  refine bodyPost_ret (results_cell_row rfl _ _ aE 51 #[.int .i64 a0, .int .i64 a1] (0, 0) _ rfl (by (with_reducible repeat (first | refine blk_drewN ?_ _ | refine blk_drew ?_ | refine blk_alloc ?_ _)); refine blk_put (cs := #[.int .i64 a0, .int .i64 0]) ?_ 1 _ rfl; (with_reducible repeat (first | refine blk_drewN ?_ _ | refine blk_drew ?_ | refine blk_alloc ?_ _)); refine blk_put (cs := #[.int .i64 0, .int .i64 0]) ?_ 0 _ rfl; (with_reducible repeat (first | refine blk_drewN ?_ _ | refine blk_drew ?_ | refine blk_alloc ?_ _)); exact aP.out) Tryd.underlying51 rfl (caaz)) rfl ?_; exact ⟨caay, G.cB HB.out⟩
 ·rw [if_neg c3] at H; have bE : decide (a0 < a1) = false := decide_eq_false c3; clear c3; simp only [Option.some.injEq, Prod.mk.injEq] at H; obtain ⟨rfl, rfl⟩ := H
  go_enter Tryd.func84, Tryd.ntmps84
  go_wp2_with (first | ((with_reducible refine G.h 4 rfl ?_); refine G.be 4 #[.int .i64 0, .int .i64 0] 51 ?_; intro aE hg w6 hbox hb; have n0 := G.bs HB hb; have n1 := G.m (hbox); have n2 := G.m (caax : w.heap.size ≤ aE); have n3 := G.m (caax : w.heap.size ≤ aE); clear HB; revert n0 n1 n2 n3; intro HB aP bo bp; clear hb hbox hg; have ⟨a_, ba, bc, bd⟩ := G.d2 (w := w6) aP))
  refine bodyPost_ret (results_cell_row rfl _ _ aE 51 #[.int .i64 a1, .int .i64 a0] (0, 0) _ rfl (by (with_reducible repeat (first | refine blk_drewN ?_ _ | refine blk_drew ?_ | refine blk_alloc ?_ _)); refine blk_put (cs := #[.int .i64 a1, .int .i64 0]) ?_ 1 _ rfl; (with_reducible repeat (first | refine blk_drewN ?_ _ | refine blk_drew ?_ | refine blk_alloc ?_ _)); refine blk_put (cs := #[.int .i64 0, .int .i64 0]) ?_ 0 _ rfl; (with_reducible repeat (first | refine blk_drewN ?_ _ | refine blk_drew ?_ | refine blk_alloc ?_ _)); exact aP.out) Tryd.underlying51 rfl (caaz)) rfl ?_; exact ⟨caay, G.cB HB.out⟩

/-! ### spec_l1Has: function 63 -/
def spec_l1Has.l0 : Nat → Int → Int → Int → Int → List (S51) → Option (Bool)
 | 0, _, _, _, _, _ => none
 | k + 1, x1, x2, x7, a8, aH => if x7 < (aH.length : Int) then (if 0 ≤ x7 then ((spec_l1Tie.f x1 x2).bind fun a7 => (if (((rd_T51 aH x7).f0) == a7.1 && (((rd_T51 aH x7).f1) == a7.2)) = true then (some true) else (spec_l1Has.l0 k x1 x2 (wrap64 (x7 + 1)) a8 aH))) else (none)) else (some false)
def spec_l1Has.f (k : Nat) (ac : Int) (aa : List (S51)) (a1 : Int) (a2 : Int) : Option (Bool) := spec_l1Has.l0 k a1 a2 0 ac aa
theorem spec_l1Has.mono_l : ∀ k, (∀ y0 y1 y2 y3 y4, LeO (spec_l1Has.l0 k y0 y1 y2 y3 y4) (spec_l1Has.l0 (k + 1) y0 y1 y2 y3 y4))
 | 0 => fun _ _ _ _ _ r h => by simp [spec_l1Has.l0] at h
 | k + 1 => by
  have aY := spec_l1Has.mono_l k
  ·intro y0 y1 y2 y3 y4; unfold spec_l1Has.l0
   repeat' first
   | (with_reducible exact aY _ _ _ _ _)
   | (with_reducible exact LeO.refl _)
   | (with_reducible exact LeO.none _)
   | (with_reducible refine LeO.ite ?_ ?_)
   | (with_reducible refine LeO.bind ?_ (fun _ => ?_))
   | exact aY _ _ _ _ _
   | exact LeO.none _
   | refine LeO.ite ?_ ?_
   | refine LeO.bind ?_ (fun _ => ?_)
theorem spec_l1Has.mono : ∀ a0 a1 a2 a3 k, LeO (spec_l1Has.f k a0 a1 a2 a3) (spec_l1Has.f (k + 1) a0 a1 a2 a3) := by
 intro a0 a1 a2 a3 k; have aY := spec_l1Has.mono_l k; unfold spec_l1Has.f
 repeat' first | (with_reducible first | exact aY _ _ _ _ _ | exact LeO.refl _ | exact LeO.none _ | refine LeO.ite ?_ ?_ | refine LeO.bind ?_ (fun _ => ?_)) | exact aY _ _ _ _ _ | exact LeO.none _ | refine LeO.ite ?_ ?_ | refine LeO.bind ?_ (fun _ => ?_)
def spec_l1Has.T4 : Bool × List (List Nat × List Nat) := (true, [([], []), ([0], [0]), ([], []), ([1, 2], [1, 2]), ([3], [3]), ([], []), ([], []), ([5, 6], [5, 6]), ([4, 7], [4, 7])])
def spec_l1Has.B4 : List Nat := [0, 1, 0, 7, 15, 0, 0, 96, 255]
theorem spec_l1Has.tab4 : rtab .any (opsOf Tryd.f63 4) = spec_l1Has.T4 := by kernel_rfl
theorem spec_l1Has.bits4 : waitsOk spec_l1Has.T4.2 spec_l1Has.B4 = true := by kernel_rfl
set_option maxHeartbeats 8000000 in
set_option maxRecDepth 100000 in
theorem spec_l1Has.calls (k : Nat) (ac : Int) (ai : Option Addr) (ah : Nat) (aa : List (S51)) (a1 : Int) (a2 : Int) (r : Bool) (w : World) (aw : Kd.C k51 w ai aa.length aa) (ax : aa.length ≤ ah) (h : spec_l1Has.f k ac aa a1 a2 = some r) :
  Calls Tryd.prog 63 #[.agg #[.int .i64 ac, .slice ai aa.length ah], .int .i64 a1, .int .i64 a2] w fun e w' => e = .returned (.bool r) ∧ Below w.heap.size w w' := by
 have a9 := Tryd.underlying29; have bD := Tryd.underlying51; have aD := G.m aw; have aU := G.m ax; clear aw ax; have HB := G.m (Below.refl w.heap.size w); have H : (spec_l1Has.l0 k a1 a2 0 ac aa) = some r := h; clear h; have H' := G.m H; clear H
 go_enter Tryd.func63, Tryd.ntmps63
 go_wp2_with (first | ((with_reducible refine G.h 3 rfl ?_); refine G.be 3 #[.int .i64 ac, .slice ai aa.length ah] 29 ?_; intro aG hg w4 hbox hb; have n0 := G.bs HB hb; have n1 := G.m (hbox); have n2 := G.m (caax : w.heap.size ≤ aG); have n3 := G.m (caax : w.heap.size ≤ aG); clear HB; revert n0 n1 n2 n3; intro HB ae ce cf; clear hb hbox hg))
 go_loopg [7] k (fun kq v7 w' => ∃ (ab : Int), v7 = .int .i64 ab ∧ Aside0 (spec_l1Has.l0 kq a1 a2 ab ac aa = some r) ∧ Aside0 (kq ≤ k) ∧ Aside0 (w'.heap[aG]? = some (.cells #[.int .i64 ac, (.slice ai aa.length ah)] 29 (0, 0))) ∧ Aside0 (Below w.heap.size w w'))
 case atStart => exact ⟨(0), (by first | rfl | (simp; done) | (simp [*]; done)), H', ⟨Nat.le_refl _⟩, ⟨G.cb ae.out⟩, ⟨G.cB HB.out⟩⟩
 case round =>
  clear H'; try clear p2
  obtain ⟨ab, rfl, HA, bA, ae, HB⟩ := hrel; cases gk with
  | zero => exact absurd HA.out (by simp [spec_l1Has.l0])
  | succ k1 =>
   have H := HA.out; clear HA; simp only [spec_l1Has.l0] at H
   by_cases c5 : ab < (aa.length : Int)
   ·rw [if_pos c5] at H; have bF : decide (ab < (aa.length : Int)) = true := decide_eq_true c5; clear c5
    by_cases c6 : 0 ≤ ab
    ·rw [if_pos c6] at H; have cj : decide (0 ≤ ab) = true := decide_eq_true c6; clear c6; obtain ⟨⟨au, av⟩, A7, H⟩ := G.bi H; replace H : (if (((rd_T51 aa ab).f0) == au && (((rd_T51 aa ab).f1) == av)) = true then (some true) else (spec_l1Has.l0 k1 a1 a2 (wrap64 (ab + 1)) ac aa)) = some r := H
     by_cases c8 : (((rd_T51 aa ab).f0) == au && (((rd_T51 aa ab).f1) == av)) = true
     ·rw [if_pos c8] at H; have bG : (((rd_T51 aa ab).f0) == au && (((rd_T51 aa ab).f1) == av)) = true := c8; (try (have bH : decide (((rd_T51 aa ab).f0) = au && (((rd_T51 aa ab).f1) == av)) = true := by simpa using c8)); (try (have bI : (((rd_T51 aa ab).f0) == au && (((rd_T51 aa ab).f1) == av)) = true := by simpa using c8)); clear c8; obtain rfl := Option.some.inj H; have ⟨bf, bh, bj, bk⟩ := G.d2 (w := wr) ae; try go_wp2
      have n0 := G.m (blk_drew ae.out); have n1 := G.m (below_drew1 HB.out); clear ae HB; revert n0 n1; intro ae HB; have aI : 0 ≤ (ab : Int) := of_decide_eq_true (G.asm); have aJ : ab < (aa.length : Int) := of_decide_eq_true (G.asm); obtain ⟨ap, a4, ak, al⟩ := at_T51 aD.out ab aI aJ; have aA := al; have aC := ak; cases a4; replace ak := G.hx HB ak; replace al := G.hx HB al; replace aI := eq_true aI; replace aJ := eq_true aJ; refine G.st 9 (S := fun w' => w'.cell? ⟨aG, 0, none⟩ = some (.int .i64 ac) ∧ w'.cell? ⟨aG, 1, none⟩ = some (.slice (some ap) aa.length ah) ∧ w'.cell? (ap.add ((ab).toNat * 2)) = some (.int .i64 ((rd_T51 aa ab).f0)) ∧ w'.cell? ⟨(ap.add ((ab).toNat * 2)).block, (ap.add ((ab).toNat * 2)).off + 1, none⟩ = some (.int .i64 ((rd_T51 aa ab).f1))) [] ⟨G.z ae 0, G.z ae 1, (G.hx HB aC), (G.hx HB aA)⟩ spec_l1Has.tab4 spec_l1Has.bits4 (fun hHeld HT_ HW_ => ?_); generalize wr.drew = bz at ae HB ak al hHeld ⊢; refine G.pu 0 15 1 ?_; refine G.pu 2 17 5 ?_; refine G.pu 5 20 37 ?_; refine G.pu 6 21 101 ?_; refine G.ta4 1 16 103 ?_; refine G.pu 3 18 111 ?_; refine G.ta4 4 19 127 ?_; refine G.on 7 22 255 (fun K hK => ?_); refine G.gs Tryd.func84 #[.int .i64 a1, .int .i64 a2] ?_; with_reducible refine (spec_l1Tie.calls a1 a2 au av _ A7.out).mono ?_
      rintro e cm ⟨rfl, hb⟩; refine ⟨_, rfl, ?_⟩; have n0 := G.bb ae hb; have n1 := G.bs HB hb; clear ae HB; revert n0 n1; intro ae HB; (try clear hb); refine hK.out _ _ ⟨G.z ae 0, G.z ae 1, (G.hx HB aC), (G.hx HB aA)⟩ (fun hHeld => ?_); clear hK K; refine G.no 22 ?_; refine G.pu 8 23 511 ?_; refine done_ (done_of HT_.out (caaz)) ?_; try go_wp2
      go_ret
      exact ⟨caay, G.cB HB.out⟩
     ·rw [if_neg c8] at H; have bG : (((rd_T51 aa ab).f0) == au && (((rd_T51 aa ab).f1) == av)) = false := by simpa using c8
      (try (have bH : decide (((rd_T51 aa ab).f0) = au && (((rd_T51 aa ab).f1) == av)) = false := by simpa using c8)); (try (have bI : (((rd_T51 aa ab).f0) == au && (((rd_T51 aa ab).f1) == av)) = false := by simpa using c8)); (try (have ck : ¬ (((rd_T51 aa ab).f0) = au && (((rd_T51 aa ab).f1) == av)) := by simpa using c8)); clear c8; have H' := G.m H; clear H; have ⟨bR, bS, bT, bU⟩ := G.d2 (w := wr) ae; try go_wp2
      have n0 := G.m (blk_drew ae.out); have n1 := G.m (below_drew1 HB.out); clear ae HB; revert n0 n1; intro ae HB; have aI : 0 ≤ (ab : Int) := of_decide_eq_true (G.asm); have aJ : ab < (aa.length : Int) := of_decide_eq_true (G.asm); obtain ⟨ap, a4, ak, al⟩ := at_T51 aD.out ab aI aJ; have aA := al; have aC := ak; cases a4; replace ak := G.hx HB ak; replace al := G.hx HB al; replace aI := eq_true aI; replace aJ := eq_true aJ; refine G.st 9 (S := fun w' => w'.cell? ⟨aG, 0, none⟩ = some (.int .i64 ac) ∧ w'.cell? ⟨aG, 1, none⟩ = some (.slice (some ap) aa.length ah) ∧ w'.cell? (ap.add ((ab).toNat * 2)) = some (.int .i64 ((rd_T51 aa ab).f0)) ∧ w'.cell? ⟨(ap.add ((ab).toNat * 2)).block, (ap.add ((ab).toNat * 2)).off + 1, none⟩ = some (.int .i64 ((rd_T51 aa ab).f1))) [] ⟨G.z ae 0, G.z ae 1, (G.hx HB aC), (G.hx HB aA)⟩ spec_l1Has.tab4 spec_l1Has.bits4 (fun hHeld HT_ HW_ => ?_); generalize wr.drew = cn at ae HB ak al hHeld ⊢; refine G.pu 0 15 1 ?_; refine G.pu 2 17 5 ?_; refine G.pu 5 20 37 ?_; refine G.pu 6 21 101 ?_; refine G.ta4 1 16 103 ?_; refine G.pu 3 18 111 ?_; refine G.ta4 4 19 127 ?_; refine G.on 7 22 255 (fun K hK => ?_); refine G.gs Tryd.func84 #[.int .i64 a1, .int .i64 a2] ?_; with_reducible refine (spec_l1Tie.calls a1 a2 au av _ A7.out).mono ?_
      rintro e co ⟨rfl, hb⟩; refine ⟨_, rfl, ?_⟩; have n0 := G.bb ae hb; have n1 := G.bs HB hb; clear ae HB; revert n0 n1; intro ae HB; (try clear hb); refine hK.out _ _ ⟨G.z ae 0, G.z ae 1, (G.hx HB aC), (G.hx HB aA)⟩ (fun hHeld => ?_); clear hK K; refine G.no 22 ?_; refine G.pu 8 23 511 ?_; refine done_ (done_of HT_.out (caaz)) ?_; try go_wp2
      go_roundg k1
      case measure => have := bA.out; omega
      case rel => exact ⟨(wrap64 (ab + 1)), (by first | rfl | (simp; done) | (simp [*]; done)), H', ⟨by have := bA.out; omega⟩, ⟨G.cb ae.out⟩, ⟨G.cB HB.out⟩⟩
    ·rw [if_neg c6] at H; exact absurd H (by simp)
   ·rw [if_neg c5] at H; have bF : decide (ab < (aa.length : Int)) = false := decide_eq_false c5; clear c5; obtain rfl := Option.some.inj H; have ⟨bV, bW, bX, bY⟩ := G.d2 (w := wr) ae
    go_wp2
    go_ret
    exact ⟨caay, G.cB HB.out⟩

end Go.Proofs.YtjkeagcenmmknaaDoor.P
