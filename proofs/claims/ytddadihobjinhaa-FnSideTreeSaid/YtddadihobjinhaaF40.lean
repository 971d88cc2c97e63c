-- Printed by a program of this session (mp.py, over the kit's print). Not trusted: Lean checks it.
import Derived.Test.YtddadihobjinhaaF0
import Derived.Test.YtddadihobjinhaaF1
import Derived.Test.YtddadihobjinhaaF2
import Derived.Test.YtddadihobjinhaaF3
import Derived.Test.YtddadihobjinhaaF5
import Derived.Test.YtddadihobjinhaaF6
import Derived.Test.YtddadihobjinhaaF16
import Derived.Test.YtddadihobjinhaaF21
import Derived.Test.YtddadihobjinhaaF23
namespace Go.Proofs.Ytddadihobjinhaa.P
open Go.RowKit Go.Proofs.YtddadihobjinhaaW.PrintWords Go.Proofs.YtddadihobjinhaaW.PrintLast Go.Proofs.YtddadihobjinhaaW.PrintMore
attribute [local go_sem] max2_int min2_int max_two min_two max_three min_three max_four min_four   -- for this text's walks alone
set_option linter.unusedVariables false
set_option linter.unusedSimpArgs false

theorem cadQ {p : Prop} (h : p := by (with_reducible repeat (first | apply Kd.R_alloc | apply Kd.R_drewN | apply Kd.R_drew)); exact (Kd.R_mono (Kd.R_far (p := ⟨aG, 1, none⟩) (Kd.R_far (p := ⟨aG, 0, none⟩) (Kd.R_types ag.out ae.out (by decide)) (fun _ hk => hk.2) (.int .i64 aa)) (fun _ hk => hk.2) (.slice aC ab.length aA)) (fun _ h_ => h_.1))) : p := h
theorem cadT {p : Prop} (h : p := by (with_reducible repeat (first | apply Kd.R_alloc | apply Kd.R_drewN | apply Kd.R_drew)); exact Kd.R_mono ai.out (fun _ hk => hk.1.2)) : p := h
theorem cadU {p : Prop} (h : p := by (with_reducible repeat (first | apply Kd.R_alloc | apply Kd.R_drewN | apply Kd.R_drew)); exact Kd.R_mono ag.out (fun _ hk => hk.1.2)) : p := h
theorem cadR {p : Prop} (h : p := by first | rfl | (simp [errW_none, errW_some] <;> rfl) | (simp [*, errW_none, errW_some] <;> rfl)) : p := h
theorem cadP {p : Prop} (h : p := by first | rfl | (simp; done) | (simp [*]; done)) : p := h
theorem cadO {p : Prop} (h : p := by rw [hg]; exact (below_size (G.cB HB.out))) : p := h
theorem cadV {p : Prop} (h : p := by repeat (first | (with_reducible first | exact bU.out | apply IsS87.alloc | apply IsS87.drewN | apply IsS87.drew | apply IsS87.set_1) | (with_reducible refine IsS87.far ?_ (Aside0.out (by assumption)) _) | exact bU.out)) : p := h
theorem cadS {B : Nat} {w w1 w2 : World} (H : Below B w w1) (h : Below B w w2 := by repeat (first | (with_reducible first | exact HB.out | apply below_alloc | apply pw_below_drewN | apply below_drew1) | (with_reducible refine below_set ?_ (Aside0.out (by assumption))) | (with_reducible refine below_set ?_ (IsS87.ge bU.out)) | exact HB.out)) : Below B w w2 := h
attribute [local go_sem high] eqA53
/-! ### spec_DrawTreeOf: function 28 -/
def spec_DrawTreeOf.f (k : Nat) (l0 : List Int) : Option (Int × (List (S53))) := (spec_l6Open.f l0).bind fun aN => ((spec_l71Any.f k aN.1 aN.2).bind fun ay => (some (ay.1, ay.2.1)))
theorem spec_DrawTreeOf.mono : ∀ a0 k, LeO (spec_DrawTreeOf.f k a0) (spec_DrawTreeOf.f (k + 1) a0) := by
 intro a0 k; unfold spec_DrawTreeOf.f
 repeat' first | (with_reducible first | exact spec_l71Any.mono _ _ _ | exact LeO.refl _ | exact LeO.none _ | refine LeO.ite ?_ ?_ | refine LeO.bind ?_ (fun _ => ?_)) | exact spec_l71Any.mono _ _ _ | exact LeO.none _ | refine LeO.ite ?_ ?_ | refine LeO.bind ?_ (fun _ => ?_)
set_option maxHeartbeats 8000000 in
set_option maxRecDepth 100000 in
theorem spec_DrawTreeOf.calls (k : Nat) (A0 : Option Addr) (c0 : Nat) (l0 : List Int) (r1 : Int) (r2 : List (S53)) (w : World) (aR : Kd.C (Kd.int .u8) w A0 l0.length l0) (aS : l0.length ≤ c0) (h : spec_DrawTreeOf.f k l0 = some (r1, r2)) :
  Calls Try.prog 28 #[.slice A0 l0.length c0] w fun e w' => ∃ bV : Value, e = .returned (.agg #[.int .i64 r1, bV]) ∧ Kd.R k53 53 w' w.heap.size (fun _ => True) bV r2 ∧ Below w.heap.size w w' := by
 have bC := Try.underlying30; have a6 := G.m aR; have bk := G.m aS; clear aR aS; have HB := G.m (Below.refl w.heap.size w); have H : ((spec_l6Open.f l0).bind fun aN => ((spec_l71Any.f k aN.1 aN.2).bind fun ay => (some (ay.1, ay.2.1)))) = some (r1, r2) := h; clear h; obtain ⟨⟨bd, bf⟩, A2, H⟩ := G.bi H; replace H : ((spec_l71Any.f k bd bf).bind fun ay => (some (ay.1, ay.2.1))) = some (r1, r2) := H; obtain ⟨⟨aX, a8, b3⟩, A3, H⟩ := G.bi H; replace H : (some (aX, a8)) = some (r1, r2) := H; simp only [Option.some.injEq, Prod.mk.injEq] at H; obtain ⟨rfl, rfl⟩ := H
 go_enter Try.func28, Try.ntmps28
 go_wp2_with (first | ((with_reducible refine G.h 2 rfl ?_); refine G.be 2 #[.int .i64 0, .slice none 0 0] 30 ?_; intro az hg w4 hbox hb; have n0 := G.bs HB hb; have n1 := G.m (hbox); have n2 := G.m (cadO : w.heap.size ≤ az); have n3 := G.m (cadO : w.heap.size ≤ az); clear HB; revert n0 n1 n2 n3; intro HB au dk dl; clear hb hbox hg) | ((with_reducible refine G.f 55 rfl ?_); refine G.gL 4 Try.func55 #[.slice A0 l0.length c0] ?_; (with_reducible refine (spec_l6Open.calls _ _ l0 bd bf w _ ?side1 ?side2 ?side3 A2.out).mono ?_); (case side1 => exact G.cB HB.out); (case side2 => exact a6.out); (case side3 => exact bk.out); rintro e w5 ⟨bD, rfl, hi, hb, bl⟩; refine ⟨_, rfl, ?_⟩; have n0 := G.m (blk_below (g := az) (o := .cells #[.int .i64 0, .slice none 0 0] 30 (0, 0)) (G.cb au.out) bl); have n1 := G.m (hb); have n2 := G.m (hi); have n3 := G.m (IsS87.ne_blk hi (blk_below (g := az) (o := .cells #[.int .i64 0, .slice none 0 0] 30 (0, 0)) (G.cb au.out) bl) (by decide)); have n4 := G.m (Ne.symm (IsS87.ne_blk hi (blk_below (g := az) (o := .cells #[.int .i64 0, .slice none 0 0] 30 (0, 0)) (G.cb au.out) bl) (by decide))); clear au HB; revert n0 n1 n2 n3 n4; intro au HB aV aT aU; (try clear hb bl hi)) | ((with_reducible refine G.f 54 rfl ?_); refine G.gL 5 Try.func54 #[.pointer (some ⟨bD, 0, none⟩)] ?_; (with_reducible refine (spec_l71Any.calls k bD bd bf aX a8 b3 w _ ?side1 ?side2 A3.out).mono ?_); (case side1 => repeat (first | (with_reducible first | exact aV.out | apply IsS87.alloc | apply IsS87.drewN | apply IsS87.drew | apply IsS87.set_1 | refine IsS87.far ?_ aT.out _) | exact aV.out)); (case side2 => exact cadS HB.out); rintro e w6 ⟨dr, rfl, aj, hi, hb, hk⟩; refine ⟨_, rfl, ?_⟩; have n0 := G.kk au aU hk; have n1 := G.m (Kd.R_lower aj (below_size (cadS HB.out))); have n2 := G.m (hb); have n3 := G.m (hi); clear au HB aV; revert n0 n1 n2 n3; intro au bm HB aV; (try clear hb hk hi aj); have dt := aU.out; have du := aT.out; have ⟨aY, aZ, a2, a3⟩ := G.d2 (w := w6) au; obtain ⟨aC, aA, bE⟩ := Kd.R_slice bm.out; subst bE))
 refine bodyPost_ret (results_cell_row rfl _ _ az 30 #[.int .i64 aX, .slice aC a8.length aA] (0, 0) _ rfl (by (with_reducible repeat (first | refine blk_drewN ?_ _ | refine blk_drew ?_ | refine blk_alloc ?_ _)); refine blk_put (cs := #[.int .i64 aX, .slice none 0 0]) ?_ 1 _ rfl; (with_reducible repeat (first | refine blk_drewN ?_ _ | refine blk_drew ?_ | refine blk_alloc ?_ _)); refine blk_put (cs := #[.int .i64 0, .slice none 0 0]) ?_ 0 _ rfl; (with_reducible repeat (first | refine blk_drewN ?_ _ | refine blk_drew ?_ | refine blk_alloc ?_ _)); exact au.out) Try.underlying30 rfl (by kernel_rfl)) rfl ?_; exact ⟨_, by first | rfl | (simp [errW_none, errW_some] <;> rfl) | (simp [*, errW_none, errW_some] <;> rfl), by (with_reducible repeat (first | apply Kd.R_alloc | apply Kd.R_drewN | apply Kd.R_drew)); exact Kd.R_mono (Kd.R_far (p := ⟨az, 1, none⟩) (Kd.R_far (p := ⟨az, 0, none⟩) (Kd.R_types bm.out au.out (by decide)) (fun _ hk => hk.2) (.int .i64 aX)) (fun _ hk => hk.2) (.slice aC a8.length aA)) (fun _ hk => trivial), cadS HB.out⟩

/-! ### impl_TreeOf: function 29 -/
def impl_TreeOf.f (k : Nat) (ao : Int) (am : List (S53)) : Option ((List (S53))) := (impl_NetOk.f k ao am).bind fun aQ => (if aQ = true then ((impl_Net_tree.f k ao am).bind fun aB => (some aB.2)) else (some (([] : List (S53)))))
theorem impl_TreeOf.mono : ∀ a0 a1 k, LeO (impl_TreeOf.f k a0 a1) (impl_TreeOf.f (k + 1) a0 a1) := by
 intro a0 a1 k; unfold impl_TreeOf.f
 repeat' first | (with_reducible first | exact impl_NetOk.mono _ _ _ | exact impl_Net_tree.mono _ _ _ | exact LeO.refl _ | exact LeO.none _ | refine LeO.ite ?_ ?_ | refine LeO.bind ?_ (fun _ => ?_)) | exact impl_NetOk.mono _ _ _ | exact impl_Net_tree.mono _ _ _ | exact LeO.none _ | refine LeO.ite ?_ ?_ | refine LeO.bind ?_ (fun _ => ?_)
set_option maxHeartbeats 8000000 in
set_option maxRecDepth 100000 in
theorem impl_TreeOf.calls (k : Nat) (ao : Int) (aH : Option Addr) (aI : Nat) (am : List (S53)) (r : List (S53)) (w : World) (bn : Kd.C k53 w aH am.length am) (bo : am.length ≤ aI) (h : impl_TreeOf.f k ao am = some r) :
  Calls Try.prog 29 #[.agg #[.int .i64 ao, .slice aH am.length aI]] w fun e w' => ∃ bW : Value, e = .returned (bW) ∧ Kd.R k53 53 w' w.heap.size (fun _ => True) bW r ∧ Below w.heap.size w w' := by
 have bC := Try.underlying30; have a9 := G.m bn; have a_ := G.m bo; clear bn bo; have HB := G.m (Below.refl w.heap.size w); have H : ((impl_NetOk.f k ao am).bind fun aQ => (if aQ = true then ((impl_Net_tree.f k ao am).bind fun aB => (some aB.2)) else (some (([] : List (S53)))))) = some r := h; clear h; obtain ⟨aQ, A2, H⟩ := G.bi H; replace H : (if aQ = true then ((impl_Net_tree.f k ao am).bind fun aB => (some aB.2)) else (some (([] : List (S53))))) = some r := H
 by_cases c3 : aQ = true
 ·subst c3; have H1 : ((impl_Net_tree.f k ao am).bind fun aB => (some aB.2)) = some r := by rw [if_pos rfl] at H; exact H
  clear H; have H := H1; clear H1; obtain ⟨⟨b4, bF⟩, A4, H⟩ := G.bi H; replace H : (some bF) = some r := H; obtain rfl := Option.some.inj H; have qfl : ∀ (w : World) (x : Int) (A : Option Addr) (n c : Nat), (Instr.field 30 (.agg #[.int .i64 x, .slice A n c]) 1).run Try.prog w = .ok (.slice A n c) w := fun w x A n c => by simp [Instr.field, run_underlying Try.underlying30, asAgg, part, Sem.run_bind, Sem.run_pure, Result.andThen_ok, go_sem]
  go_enter Try.func29, Try.ntmps29
  go_wp2_with (first | ((with_reducible refine G.h 1 rfl ?_); refine G.be 1 #[.int .i64 ao, .slice aH am.length aI] 30 ?_; intro aO hg w5 hbox hb; have n0 := G.bs HB hb; have n1 := G.m (hbox); have n2 := G.m (cadO : w.heap.size ≤ aO); have n3 := G.m (cadO : w.heap.size ≤ aO); clear HB; revert n0 n1 n2 n3; intro HB al bP bQ; clear hb hbox hg; have ⟨c_, da, db, dc⟩ := G.d2 (w := w5) al) | ((with_reducible refine G.f 45 rfl ?_); refine G.gL 4 Try.func45 #[.agg #[.int .i64 ao, .slice aH am.length aI]] ?_; (with_reducible refine (impl_NetOk.calls k ao _ _ am true _ ?side1 ?side2 A2.out).mono ?_); (case side1 => exact G.cC (Kd.C_below a9.out HB.out)); (case side2 => exact a_.out); rintro e w7 ⟨rfl, hb⟩; refine ⟨_, rfl, ?_⟩; have n0 := G.bb al hb; have n1 := G.bs HB hb; clear al HB; revert n0 n1; intro al HB; (try clear hb); have ⟨aY, aZ, a2, a3⟩ := G.d2 (w := w7) al) | ((with_reducible refine G.f 50 rfl ?_); refine G.gL 8 Try.func50 #[.agg #[.int .i64 ao, .slice aH am.length aI]] ?_; (with_reducible refine (impl_Net_tree.calls k ao _ _ am b4 bF _ ?side1 ?side2 A4.out).mono ?_); (case side1 => exact G.cC (Kd.C_below a9.out HB.out)); (case side2 => exact a_.out); rintro e w9 ⟨dv, rfl, aj, hb⟩; refine ⟨_, rfl, ?_⟩; have n0 := G.m (Kd.R_lower aj (below_size (G.cB HB.out))); have n1 := G.bb al hb; have n2 := G.bs HB hb; clear al HB; revert n0 n1 n2; intro bp al HB; (try clear hb aj); obtain ⟨Aot_, cot_, eot_⟩ := Kd.R_slice bp.out; subst eot_))
  go_ret
  exact ⟨_, by first | rfl | (simp [errW_none, errW_some] <;> rfl) | (simp [*, errW_none, errW_some] <;> rfl), G.cR bp.out, G.cB HB.out⟩
 ·replace c3 := Bool.eq_false_iff.mpr c3; subst c3; have H1 : (some (([] : List (S53)))) = some r := by rw [if_neg (show ¬ (false = true) by decide)] at H; exact H
  clear H; have H := H1; clear H1; obtain ⟨b5, aP⟩ : ∃ y_ : List (S53), y_ = (([] : List (S53))) := ⟨_, rfl⟩; replace H : (some b5) = some r := by first | (rw [aP]; with_reducible exact H) | (have bG := (Option.bind_some _ _).symm.trans H; rw [aP]; with_reducible exact bG) | (have bG := (Option.bind_some _ _).symm.trans H; with_reducible exact bG) | with_reducible exact H | (rw [aP]; exact H) | exact H
  have bq := G.m aP; clear aP; obtain rfl := Option.some.inj H
  go_enter Try.func29, Try.ntmps29
  go_wp2_with (first | ((with_reducible refine G.h 1 rfl ?_); refine G.be 1 #[.int .i64 ao, .slice aH am.length aI] 30 ?_; intro aO hg br hbox hb; have n0 := G.bs HB hb; have n1 := G.m (hbox); have n2 := G.m (cadO : w.heap.size ≤ aO); have n3 := G.m (cadO : w.heap.size ≤ aO); clear HB; revert n0 n1 n2 n3; intro HB al bP bQ; clear hb hbox hg; have ⟨cx, cy, cz, cA⟩ := G.d2 (w := br) al) | ((with_reducible refine G.f 45 rfl ?_); refine G.gL 4 Try.func45 #[.agg #[.int .i64 ao, .slice aH am.length aI]] ?_; (with_reducible refine (impl_NetOk.calls k ao _ _ am false _ ?side1 ?side2 A2.out).mono ?_); (case side1 => exact G.cC (Kd.C_below a9.out HB.out)); (case side2 => exact a_.out); rintro e dD ⟨rfl, hb⟩; refine ⟨_, rfl, ?_⟩; have n0 := G.bb al hb; have n1 := G.bs HB hb; clear al HB; revert n0 n1; intro al HB; (try clear hb)) | ((with_reducible refine G.h 6 rfl ?_); refine Kd.R_lit k53 _ 53 ?hg (N := 6) ?hd (xs := ([] : List (S53))) (inner := []) (ok := fun _ => True) (okp := fun _ => True) ?hr ?hp (fun _ hk => hk) trivial (Below.refl _ _) (Nat.le_refl _) (by simp) ?_; (case hd => rfl); (case hg => rfl); (case hr => first | (go_simp; done) | (go_simp; rfl)); (case hp => exact (Reps.none _ _)); intro dw dE a4 hb hg_ hnew_; clear hg_ hnew_; (first | rw [← bq.out] at a4 | (simp only [Int.reduceToNat] at a4; rw [← bq.out] at a4)); have n0 := G.m (Kd.R_lower a4 (below_size (G.cB HB.out))); have n1 := G.bb al hb; have n2 := G.bs HB hb; clear al HB; revert n0 n1 n2; intro bR al HB; clear hb a4))
  go_ret
  exact ⟨_, by first | rfl | (simp [errW_none, errW_some] <;> rfl) | (simp [*, errW_none, errW_some] <;> rfl), G.cR bR.out, G.cB HB.out⟩

/-! ### laws_loTies: function 30 -/
def laws_loTies.l0 : Nat → List (S53) → List (S53) → Int → Option (Bool)
 | 0, _, _, _ => none
 | k + 1, x0, x1, x5 => if x5 < (x0.length : Int) then (if 0 ≤ x5 then (if x5 < (x1.length : Int) then (if (!(((rd_T53 x0 x5).f0) == ((rd_T53 x1 x5).f0)) || (!(((rd_T53 x0 x5).f1) == ((rd_T53 x1 x5).f1)))) = true then (some false) else (laws_loTies.l0 k x0 x1 (wrap64 (x5 + 1)))) else (none)) else (none)) else (some true)
def laws_loTies.f (k : Nat) (l0 : List (S53)) (l1 : List (S53)) : Option (Bool) := if (l0.length : Int) = (l1.length : Int) then (laws_loTies.l0 k l0 l1 0) else (some false)
theorem laws_loTies.mono_l : ∀ k, (∀ y0 y1 y2, LeO (laws_loTies.l0 k y0 y1 y2) (laws_loTies.l0 (k + 1) y0 y1 y2))
 | 0 => fun _ _ _ r h => by simp [laws_loTies.l0] at h
 | k + 1 => by
  have aD := laws_loTies.mono_l k
  ·intro y0 y1 y2; unfold laws_loTies.l0
   repeat' first
   | (with_reducible exact aD _ _ _)
   | (with_reducible exact LeO.refl _)
   | (with_reducible exact LeO.none _)
   | (with_reducible refine LeO.ite ?_ ?_)
   | (with_reducible refine LeO.bind ?_ (fun _ => ?_))
   | exact aD _ _ _
   | exact LeO.none _
   | refine LeO.ite ?_ ?_
   | refine LeO.bind ?_ (fun _ => ?_)
theorem laws_loTies.mono : ∀ a0 a1 k, LeO (laws_loTies.f k a0 a1) (laws_loTies.f (k + 1) a0 a1) := by
 intro a0 a1 k; have aD := laws_loTies.mono_l k; unfold laws_loTies.f
 repeat' first | (with_reducible first | exact aD _ _ _ | exact LeO.refl _ | exact LeO.none _ | refine LeO.ite ?_ ?_ | refine LeO.bind ?_ (fun _ => ?_)) | exact aD _ _ _ | exact LeO.none _ | refine LeO.ite ?_ ?_ | refine LeO.bind ?_ (fun _ => ?_)
set_option maxHeartbeats 8000000 in
set_option maxRecDepth 100000 in
theorem laws_loTies.calls (k : Nat) (A0 : Option Addr) (c0 : Nat) (l0 : List (S53)) (A1 : Option Addr) (c1 : Nat) (l1 : List (S53)) (r : Bool) (w : World) (aR : Kd.C k53 w A0 l0.length l0) (aS : l0.length ≤ c0) (hr1 : Kd.C k53 w A1 l1.length l1) (bX : l1.length ≤ c1) (h : laws_loTies.f k l0 l1 = some r) :
  Calls Try.prog 30 #[.slice A0 l0.length c0, .slice A1 l1.length c1] w fun e w' => e = .returned (.bool r) ∧ Drawn0 w w' := by
 have dx := Try.underlying53; have a6 := G.m aR; have bk := G.m aS; clear aR aS; have bY := G.m hr1; have dF := G.m bX; clear hr1 bX; have H : (if (l0.length : Int) = (l1.length : Int) then (laws_loTies.l0 k l0 l1 0) else (some false)) = some r := h; clear h
 by_cases c3 : (l0.length : Int) = (l1.length : Int)
 ·rw [if_pos c3] at H; have bH : ((l0.length : Int) == (l1.length : Int)) = true := beq_iff_eq.mpr c3; have bI : ((l0.length : Int) != (l1.length : Int)) = false := bne_eq_false_iff_eq.mpr c3; have bJ : (l0.length == l1.length) = true := by first | simpa using c3 | (simp at c3 ⊢; omega)
  clear c3; have H' := G.m H; clear H
  go_enter Try.func30, Try.ntmps30
  go_wp2
  repeat (go_quiet (fail); try go_wp2)
  go_loopg [5] k (fun kq v5 w' => ∃ (af : Int), v5 = .int .i64 af ∧ Aside0 (laws_loTies.l0 kq l0 l1 af = some r) ∧ Aside0 (kq ≤ k) ∧ Drawn0 w w')
  case atStart => exact ⟨(0), (cadP), H', ⟨Nat.le_refl _⟩, by repeat (first | exact Drawn0.refl _ | apply Drawn0.step)⟩
  case round =>
   clear H'; (try clear bH bI bJ); obtain ⟨af, rfl, HA, bZ, ⟨m1, rfl⟩⟩ := hrel; cases gk with
   | zero => exact absurd HA.out (by simp [laws_loTies.l0])
   | succ k1 =>
    have H := HA.out; clear HA; simp only [laws_loTies.l0] at H
    by_cases c4 : af < (l0.length : Int)
    ·rw [if_pos c4] at H; have b6 : decide (af < (l0.length : Int)) = true := decide_eq_true c4; clear c4
     by_cases c5 : 0 ≤ af
     ·rw [if_pos c5] at H; have dy : decide (0 ≤ af) = true := decide_eq_true c5; clear c5
      by_cases c6 : af < (l1.length : Int)
      ·rw [if_pos c6] at H; have dz : decide (af < (l1.length : Int)) = true := decide_eq_true c6; clear c6
       by_cases c7 : (!(((rd_T53 l0 af).f0) == ((rd_T53 l1 af).f0)) || (!(((rd_T53 l0 af).f1) == ((rd_T53 l1 af).f1)))) = true
       ·rw [if_pos c7] at H; have b7 : (!(((rd_T53 l0 af).f0) == ((rd_T53 l1 af).f0)) || (!(((rd_T53 l0 af).f1) == ((rd_T53 l1 af).f1)))) = true := c7; clear c7; obtain rfl := Option.some.inj H; have aJ : 0 ≤ (af : Int) := of_decide_eq_true (G.asm); have aK : af < (l0.length : Int) := of_decide_eq_true (G.asm); obtain ⟨bS, bh, bw, bx⟩ := at_T53 a6.out af aJ aK; cases bh; replace aJ := eq_true aJ; replace aK := eq_true aK; have aL : 0 ≤ (af : Int) := of_decide_eq_true (G.asm); have aM : af < (l1.length : Int) := of_decide_eq_true (G.asm); obtain ⟨bT, bj, bz, bA⟩ := at_T53 bY.out af aL aM; cases bj; replace aL := eq_true aL; replace aM := eq_true aM
        go_wp2
        repeat (go_quiet (fail); try go_wp2)
        go_ret
        exact ⟨cadP, by repeat (first | exact Drawn0.refl _ | apply Drawn0.step)⟩
       ·rw [if_neg c7] at H; have b7 : (!(((rd_T53 l0 af).f0) == ((rd_T53 l1 af).f0)) || (!(((rd_T53 l0 af).f1) == ((rd_T53 l1 af).f1)))) = false := by simpa using c7
        clear c7; have H' := G.m H; clear H; have aJ : 0 ≤ (af : Int) := of_decide_eq_true (G.asm); have aK : af < (l0.length : Int) := of_decide_eq_true (G.asm); obtain ⟨bS, bh, bw, bx⟩ := at_T53 a6.out af aJ aK; cases bh; replace aJ := eq_true aJ; replace aK := eq_true aK; have aL : 0 ≤ (af : Int) := of_decide_eq_true (G.asm); have aM : af < (l1.length : Int) := of_decide_eq_true (G.asm); obtain ⟨bT, bj, bz, bA⟩ := at_T53 bY.out af aL aM; cases bj; replace aL := eq_true aL; replace aM := eq_true aM
        go_wp2
        repeat (go_quiet (fail); try go_wp2)
        go_roundg k1
        case measure => have := bZ.out; omega
        case rel => exact ⟨(wrap64 (af + 1)), (cadP), H', ⟨by have := bZ.out; omega⟩, by repeat (first | exact Drawn0.refl _ | apply Drawn0.step)⟩
      ·rw [if_neg c6] at H; exact absurd H (by simp)
     ·rw [if_neg c5] at H; exact absurd H (by simp)
    ·rw [if_neg c4] at H; have b6 : decide (af < (l0.length : Int)) = false := decide_eq_false c4; clear c4; obtain rfl := Option.some.inj H
     go_wp2
     repeat (go_quiet (fail); try go_wp2)
     go_ret
     exact ⟨cadP, by repeat (first | exact Drawn0.refl _ | apply Drawn0.step)⟩
 ·rw [if_neg c3] at H; have bH : ((l0.length : Int) == (l1.length : Int)) = false := beq_eq_false_iff_ne.mpr c3; have bI : ((l0.length : Int) != (l1.length : Int)) = true := bne_iff_ne.mpr c3; have bJ : (l0.length == l1.length) = false := by first | simpa using c3 | (simp at c3 ⊢; omega)
  obtain rfl := Option.some.inj H
  go_enter Try.func30, Try.ntmps30
  go_wp2
  repeat (go_quiet (fail); try go_wp2)
  go_ret
  exact ⟨cadP, by repeat (first | exact Drawn0.refl _ | apply Drawn0.step)⟩

/-! ### laws_FnSideTree: function 6 -/
def laws_FnSideTree.j0 : Nat → List (S53) → Bool → Int → List (S53) → Option (Bool)
 | 0, _, _, _, _ => none
 | k + 1, x4, dd, a7, bB => if dd = true then ((spec_TreeOf.f k a7 bB).bind fun aE => ((laws_loTies.f k x4 aE).bind fun aF => (some aF))) else ((impl_SideOf.f k a7 x4).bind fun ba => (some ba.2))
def laws_FnSideTree.f (k : Nat) (l0 : List Int) : Option (Bool) := if (l0.length : Int) > 1048576 then (some true) else ((spec_DrawTreeOf.f k l0).bind fun ah => ((impl_TreeOf.f k ah.1 ah.2).bind fun ac => ((spec_TreeOf.f k ah.1 ah.2).bind fun aq => ((laws_loTies.f k ac aq).bind fun ax => (if ax = true then ((spec_NetOk.f k ah.1 ah.2).bind fun ap => (laws_FnSideTree.j0 k ac (!ap) ah.1 ah.2)) else (laws_FnSideTree.j0 k ac true ah.1 ah.2))))))
theorem laws_FnSideTree.mono_l : ∀ k, (∀ y0 y1 y2 y3, LeO (laws_FnSideTree.j0 k y0 y1 y2 y3) (laws_FnSideTree.j0 (k + 1) y0 y1 y2 y3))
 | 0 => fun _ _ _ _ r h => by simp [laws_FnSideTree.j0] at h
 | k + 1 => by
  have aD := laws_FnSideTree.mono_l k
  ·intro y0 y1 y2 y3; unfold laws_FnSideTree.j0
   repeat' first
   | (with_reducible exact aD _ _ _ _)
   | (with_reducible exact impl_SideOf.mono _ _ _)
   | (with_reducible exact impl_TreeOf.mono _ _ _)
   | (with_reducible exact laws_loTies.mono _ _ _)
   | (with_reducible exact spec_DrawTreeOf.mono _ _)
   | (with_reducible exact spec_NetOk.mono _ _ _)
   | (with_reducible exact spec_TreeOf.mono _ _ _)
   | (with_reducible exact LeO.refl _)
   | (with_reducible exact LeO.none _)
   | (with_reducible refine LeO.ite ?_ ?_)
   | (with_reducible refine LeO.bind ?_ (fun _ => ?_))
   | exact aD _ _ _ _
   | exact impl_SideOf.mono _ _ _
   | exact impl_TreeOf.mono _ _ _
   | exact laws_loTies.mono _ _ _
   | exact spec_DrawTreeOf.mono _ _
   | exact spec_NetOk.mono _ _ _
   | exact spec_TreeOf.mono _ _ _
   | exact LeO.none _
   | refine LeO.ite ?_ ?_
   | refine LeO.bind ?_ (fun _ => ?_)
theorem laws_FnSideTree.mono : ∀ a0 k, LeO (laws_FnSideTree.f k a0) (laws_FnSideTree.f (k + 1) a0) := by
 intro a0 k; have aD := laws_FnSideTree.mono_l k; unfold laws_FnSideTree.f
 repeat' first | (with_reducible first | exact aD _ _ _ _ | exact impl_SideOf.mono _ _ _ | exact impl_TreeOf.mono _ _ _ | exact laws_loTies.mono _ _ _ | exact spec_DrawTreeOf.mono _ _ | exact spec_NetOk.mono _ _ _ | exact spec_TreeOf.mono _ _ _ | exact LeO.refl _ | exact LeO.none _ | refine LeO.ite ?_ ?_ | refine LeO.bind ?_ (fun _ => ?_)) | exact aD _ _ _ _ | exact impl_SideOf.mono _ _ _ | exact impl_TreeOf.mono _ _ _ | exact laws_loTies.mono _ _ _ | exact spec_DrawTreeOf.mono _ _ | exact spec_NetOk.mono _ _ _ | exact spec_TreeOf.mono _ _ _ | exact LeO.none _ | refine LeO.ite ?_ ?_ | refine LeO.bind ?_ (fun _ => ?_)
set_option maxHeartbeats 8000000 in
set_option maxRecDepth 100000 in
theorem laws_FnSideTree.calls (k : Nat) (A0 : Option Addr) (c0 : Nat) (l0 : List Int) (r : Bool) (w : World) (aR : Kd.C (Kd.int .u8) w A0 l0.length l0) (aS : l0.length ≤ c0) (h : laws_FnSideTree.f k l0 = some r) :
  Calls Try.prog 6 #[.slice A0 l0.length c0] w fun e w' => e = .returned (.bool r) ∧ Below w.heap.size w w' := by
 have bC := Try.underlying30; have a6 := G.m aR; have bk := G.m aS; clear aR aS; have HB := G.m (Below.refl w.heap.size w); have H : (if (l0.length : Int) > 1048576 then (some true) else ((spec_DrawTreeOf.f k l0).bind fun ah => ((impl_TreeOf.f k ah.1 ah.2).bind fun ac => ((spec_TreeOf.f k ah.1 ah.2).bind fun aq => ((laws_loTies.f k ac aq).bind fun ax => (if ax = true then ((spec_NetOk.f k ah.1 ah.2).bind fun ap => (laws_FnSideTree.j0 k ac (!ap) ah.1 ah.2)) else (laws_FnSideTree.j0 k ac true ah.1 ah.2))))))) = some r := h; clear h
 by_cases c2 : (l0.length : Int) > 1048576
 ·rw [if_pos c2] at H; have bK : decide (1048576 < (l0.length : Int)) = true := decide_eq_true c2; have bL : decide (1048576 < l0.length) = true := decide_eq_true (by omega); clear c2; obtain rfl := Option.some.inj H
  go_enter Try.func6, Try.ntmps6
  go_wp2
  go_ret
  exact ⟨cadR, G.cB HB.out⟩
 ·rw [if_neg c2] at H; have bK : decide (1048576 < (l0.length : Int)) = false := decide_eq_false c2; have bL : decide (1048576 < l0.length) = false := decide_eq_false (by omega); clear c2; obtain ⟨⟨aa, ab⟩, A3, H⟩ := G.bi H; replace H : ((impl_TreeOf.f k aa ab).bind fun ac => ((spec_TreeOf.f k aa ab).bind fun aq => ((laws_loTies.f k ac aq).bind fun ax => (if ax = true then ((spec_NetOk.f k aa ab).bind fun ap => (laws_FnSideTree.j0 k ac (!ap) aa ab)) else (laws_FnSideTree.j0 k ac true aa ab))))) = some r := H; obtain ⟨ac, A4, H⟩ := G.bi H; replace H : ((spec_TreeOf.f k aa ab).bind fun aq => ((laws_loTies.f k ac aq).bind fun ax => (if ax = true then ((spec_NetOk.f k aa ab).bind fun ap => (laws_FnSideTree.j0 k ac (!ap) aa ab)) else (laws_FnSideTree.j0 k ac true aa ab)))) = some r := H; have bM := G.m H; clear H
  go_enter Try.func6, Try.ntmps6
  go_upto_region 5 with (first | ((with_reducible refine G.f 28 rfl ?_); refine G.gL 11 Try.func28 #[.slice A0 l0.length c0] ?_; (with_reducible refine (spec_DrawTreeOf.calls k _ _ l0 aa ab _ ?side1 ?side2 A3.out).mono ?_); (case side1 => exact G.cC a6.out); (case side2 => exact bk.out); rintro e w6 ⟨dA, rfl, aj, hb⟩; refine ⟨_, rfl, ?_⟩; have n0 := G.m (Kd.R_lower aj (below_size (G.cB HB.out))); have n1 := G.bs HB hb; clear HB; revert n0 n1; intro ag HB; (try clear hb aj)) | ((with_reducible refine G.h 3 rfl ?_); refine G.be 3 #[.int .i64 0, .slice none 0 0] 30 ?_; intro aG hg w7 hbox hb; have n0 := G.rb ag hb; have n1 := G.bs HB hb; have n2 := G.m (hbox); have n3 := G.m (cadO : w.heap.size ≤ aG); have n4 := G.m (cadO : w.heap.size ≤ aG); clear ag HB; revert n0 n1 n2 n3 n4; intro ag HB ae dn dp; clear hb hbox hg; have ⟨aY, aZ, a2, a3⟩ := G.d2 (w := w7) ae; obtain ⟨aC, aA, bE⟩ := Kd.R_slice ag.out; subst bE) | ((with_reducible refine G.f 29 rfl ?_); refine G.gL 13 Try.func29 #[.agg #[.int .i64 aa, .slice aC ab.length aA]] ?_; (with_reducible refine (impl_TreeOf.calls k aa _ _ ab ac _ ?side1 ?side2 A4.out).mono ?_); (case side1 => refine (Kd.R_reads' (e := 53) (base := w.heap.size) (ok := fun k_ => True) (n := ab.length) (c := aA) ?_).2.2; exact (cadQ)); (case side2 => exact (Kd.R_reads' ag.out).2.1); rintro e br ⟨bN, rfl, aj, hb⟩; refine ⟨_, rfl, ?_⟩; have n0 := G.m (Kd.R_elder' (cadQ) (Kd.R_base aj) hb); have n1 := G.m (Kd.R_lower (Kd.R_new' aj (Kd.R_lt (cadQ))) (below_size (G.cB HB.out))); have n2 := G.m (blk_below (g := aG) (o := .cells #[.int .i64 aa, .slice aC ab.length aA] 30 (0, 0)) (by (with_reducible repeat (first | refine blk_drewN ?_ _ | refine blk_drew ?_ | refine blk_alloc ?_ _)); refine blk_put (cs := #[.int .i64 aa, .slice none 0 0]) ?_ 1 _ rfl; (with_reducible repeat (first | refine blk_drewN ?_ _ | refine blk_drew ?_ | refine blk_alloc ?_ _)); refine blk_put (cs := #[.int .i64 0, .slice none 0 0]) ?_ 0 _ rfl; (with_reducible repeat (first | refine blk_drewN ?_ _ | refine blk_drew ?_ | refine blk_alloc ?_ _)); exact ae.out) hb); have n3 := G.bs HB hb; clear ag ae HB; revert n0 n1 n2 n3; intro ag ai ae HB; (try clear hb aj)))
  (try simp only [Act.put, List.setIfInBounds_toArray, List.set_cons_zero, List.set_cons_succ])
  go_cut [23] (fun de wc => ∃ (kq : Nat) (aW : Bool), de = .bool aW ∧ Aside0 (laws_FnSideTree.j0 kq ac aW aa ab = some r) ∧ Aside0 (kq ≤ k) ∧ Aside0 (Kd.R k53 53 wc w.heap.size (fun k_ => some k_ ≠ ((.slice aC ab.length aA) : Value).ownBlock) bN ac) ∧ Aside0 (Kd.R k53 53 wc w.heap.size (fun k_ => some k_ ≠ (bN : Value).ownBlock) (.slice aC ab.length aA) ab) ∧ Aside0 (wc.heap[aG]? = some (.cells #[.int .i64 aa, (.slice aC ab.length aA)] 30 (0, 0))) ∧ Aside0 (Below w.heap.size w wc))
  case first =>
   have H := bM.out; clear bM; obtain ⟨aq, b1, H⟩ := G.bi H; replace H : ((laws_loTies.f k ac aq).bind fun ax => (if ax = true then ((spec_NetOk.f k aa ab).bind fun ap => (laws_FnSideTree.j0 k ac (!ap) aa ab)) else (laws_FnSideTree.j0 k ac true aa ab))) = some r := H; obtain ⟨ax, b2, H⟩ := G.bi H; replace H : (if ax = true then ((spec_NetOk.f k aa ab).bind fun ap => (laws_FnSideTree.j0 k ac (!ap) aa ab)) else (laws_FnSideTree.j0 k ac true aa ab)) = some r := H
   by_cases bu : ax = true
   ·subst bu; have H1 : ((spec_NetOk.f k aa ab).bind fun ap => (laws_FnSideTree.j0 k ac (!ap) aa ab)) = some r := by rw [if_pos rfl] at H; exact H
    clear H; have H := H1; clear H1; obtain ⟨ap, df, H⟩ := G.bi H; replace H : (laws_FnSideTree.j0 k ac (!ap) aa ab) = some r := H; have H' := G.m H; clear H; have ⟨cD, cE, cF, cG⟩ := G.d2 (w := br) ae
    go_wp2_with (first | ((with_reducible refine G.f 31 rfl ?_); refine G.gL 16 Try.func31 #[.agg #[.int .i64 aa, .slice aC ab.length aA]] ?_; (with_reducible refine (spec_TreeOf.calls k aa _ _ ab aq _ ?side1 ?side2 b1.out).mono ?_); (case side1 => exact G.cC (Kd.R_reads' ag.out).2.2); (case side2 => exact (Kd.R_reads' ag.out).2.1); rintro e dg ⟨b8, rfl, aj, hb⟩; refine ⟨_, rfl, ?_⟩; have n0 := G.re ag aj hb; have n1 := G.re ai aj hb; have n2 := G.m (Kd.R_lower (Kd.R_new' (Kd.R_new' aj (Kd.R_lt (G.cR ag.out))) (Kd.R_lt (G.cR ai.out))) (below_size (G.cB HB.out))); have n3 := G.bb ae hb; have n4 := G.bs HB hb; clear ag ai ae HB; revert n0 n1 n2 n3 n4; intro ag ai aw ae HB; (try clear hb aj); obtain ⟨b9, b_, ca⟩ := Kd.R_slice ai.out; subst ca; obtain ⟨cd, ce, cf⟩ := Kd.R_slice aw.out; subst cf) | ((with_reducible refine G.f 30 rfl ?_); refine G.gL 17 Try.func30 #[.slice b9 ac.length b_, .slice cd aq.length ce] ?_; (with_reducible refine (laws_loTies.calls k _ _ ac _ _ aq true _ ?side1 ?side2 ?side3 ?side4 b2.out).mono ?_); (case side1 => exact G.cC (Kd.R_reads' ai.out).2.2); (case side2 => exact (Kd.R_reads' ai.out).2.1); (case side3 => exact G.cC (Kd.R_reads' aw.out).2.2); (case side4 => exact (Kd.R_reads' aw.out).2.1); rintro e w' ⟨rfl, ⟨nd, rfl⟩⟩; refine ⟨_, rfl, ?_⟩; have ⟨cH, cI, cJ, cL⟩ := G.d2 (w := dg) ae) | (go_at_call 32; (with_reducible refine (spec_NetOk.calls k aa _ _ ab ap _ ?side1 ?side2 df.out).mono ?_); (case side1 => exact G.cC (Kd.R_reads' ag.out).2.2); (case side2 => exact (Kd.R_reads' ag.out).2.1); rintro e dG ⟨rfl, hb⟩; have n0 := G.rb ag hb; have n1 := G.rb ai hb; have n2 := G.rb aw hb; have n3 := G.bb ae hb; have n4 := G.bs HB hb; clear ag ai aw ae HB; revert n0 n1 n2 n3 n4; intro ag ai aw ae HB; (try clear hb)))
    go_meet
    case rel => exact ⟨_, (!ap), (cadP), H', ⟨by first | omega | exact Nat.le_refl _⟩, ⟨cadT⟩, ⟨cadU⟩, ⟨G.cb ae.out⟩, ⟨G.cB HB.out⟩⟩
   ·replace bu := Bool.eq_false_iff.mpr bu; subst bu; have H1 : (laws_FnSideTree.j0 k ac true aa ab) = some r := by rw [if_neg (show ¬ (false = true) by decide)] at H; exact H
    clear H; have H := H1; clear H1; have H' := G.m H; clear H; have ⟨cM, cN, cO, cP⟩ := G.d2 (w := br) ae
    go_wp2_with (first | ((with_reducible refine G.f 31 rfl ?_); refine G.gL 16 Try.func31 #[.agg #[.int .i64 aa, .slice aC ab.length aA]] ?_; (with_reducible refine (spec_TreeOf.calls k aa _ _ ab aq _ ?side1 ?side2 b1.out).mono ?_); (case side1 => exact G.cC (Kd.R_reads' ag.out).2.2); (case side2 => exact (Kd.R_reads' ag.out).2.1); rintro e dH ⟨b8, rfl, aj, hb⟩; refine ⟨_, rfl, ?_⟩; have n0 := G.re ag aj hb; have n1 := G.re ai aj hb; have n2 := G.m (Kd.R_lower (Kd.R_new' (Kd.R_new' aj (Kd.R_lt (G.cR ag.out))) (Kd.R_lt (G.cR ai.out))) (below_size (G.cB HB.out))); have n3 := G.bb ae hb; have n4 := G.bs HB hb; clear ag ai ae HB; revert n0 n1 n2 n3 n4; intro ag ai aw ae HB; (try clear hb aj); obtain ⟨cg, ch, ci⟩ := Kd.R_slice ai.out; subst ci; obtain ⟨cj, ck, cl⟩ := Kd.R_slice aw.out; subst cl) | ((with_reducible refine G.f 30 rfl ?_); refine G.gL 17 Try.func30 #[.slice cg ac.length ch, .slice cj aq.length ck] ?_; (with_reducible refine (laws_loTies.calls k _ _ ac _ _ aq false _ ?side1 ?side2 ?side3 ?side4 b2.out).mono ?_); (case side1 => exact G.cC (Kd.R_reads' ai.out).2.2); (case side2 => exact (Kd.R_reads' ai.out).2.1); (case side3 => exact G.cC (Kd.R_reads' aw.out).2.2); (case side4 => exact (Kd.R_reads' aw.out).2.1); rintro e w' ⟨rfl, ⟨nd, rfl⟩⟩; refine ⟨_, rfl, ?_⟩))
    go_meet
    case rel => exact ⟨_, (true), (cadP), H', ⟨by first | omega | exact Nat.le_refl _⟩, ⟨cadT⟩, ⟨cadU⟩, ⟨G.cb ae.out⟩, ⟨G.cB HB.out⟩⟩
  case rest =>
   clear bM; (try clear bK bL aY aZ a2 a3); obtain ⟨kq, aW, rfl, HA, dI, av, ak, ae, HB⟩ := hcut; cases kq with
   | zero => exact absurd HA.out (by simp [laws_FnSideTree.j0])
   | succ a5 =>
    have H := HA.out; clear HA; simp only [laws_FnSideTree.j0] at H
    by_cases bv : aW = true
    ·subst bv; have H1 : ((spec_TreeOf.f a5 aa ab).bind fun aE => ((laws_loTies.f a5 ac aE).bind fun aF => (some aF))) = some r := by rw [if_pos rfl] at H; exact H
     clear H; have H := H1; clear H1; obtain ⟨aE, dh, H⟩ := G.bi H; replace H : ((laws_loTies.f a5 ac aE).bind fun aF => (some aF)) = some r := H; obtain ⟨aF, di, H⟩ := G.bi H; replace H : (some aF) = some r := H; obtain rfl := Option.some.inj H; have ⟨cQ, cS, cT, cU⟩ := G.d2 (w := wc) ae
     go_wp2_with (first | ((with_reducible refine G.f 31 rfl ?_); refine G.gL 26 Try.func31 #[.agg #[.int .i64 aa, .slice aC ab.length aA]] ?_; (with_reducible refine (spec_TreeOf.calls a5 aa _ _ ab aE _ ?side1 ?side2 dh.out).mono ?_); (case side1 => exact G.cC (Kd.R_reads' ak.out).2.2); (case side2 => exact (Kd.R_reads' ak.out).2.1); rintro e dJ ⟨dB, rfl, aj, hb⟩; refine ⟨_, rfl, ?_⟩; have n0 := G.re av aj hb; have n1 := G.re ak aj hb; have n2 := G.m (Kd.R_lower (Kd.R_new' (Kd.R_new' aj (Kd.R_lt (G.cR av.out))) (Kd.R_lt (G.cR ak.out))) (below_size (G.cB HB.out))); have n3 := G.bb ae hb; have n4 := G.bs HB hb; clear av ak ae HB; revert n0 n1 n2 n3 n4; intro av ak bc ae HB; (try clear hb aj); obtain ⟨cm, cn, co⟩ := Kd.R_slice av.out; subst co; obtain ⟨cp, cq, cr⟩ := Kd.R_slice bc.out; subst cr) | ((with_reducible refine G.f 30 rfl ?_); refine G.gL 27 Try.func30 #[.slice cm ac.length cn, .slice cp aE.length cq] ?_; (with_reducible refine (laws_loTies.calls a5 _ _ ac _ _ aE aF _ ?side1 ?side2 ?side3 ?side4 di.out).mono ?_); (case side1 => exact G.cC (Kd.R_reads' av.out).2.2); (case side2 => exact (Kd.R_reads' av.out).2.1); (case side3 => exact G.cC (Kd.R_reads' bc.out).2.2); (case side4 => exact (Kd.R_reads' bc.out).2.1); rintro e w' ⟨rfl, ⟨nd, rfl⟩⟩; refine ⟨_, rfl, ?_⟩))
     go_ret
     exact ⟨cadR, G.cB HB.out⟩
    ·replace bv := Bool.eq_false_iff.mpr bv; subst bv; have H1 : ((impl_SideOf.f a5 aa ac).bind fun ba => (some ba.2)) = some r := by rw [if_neg (show ¬ (false = true) by decide)] at H; exact H
     clear H; have H := H1; clear H1; obtain ⟨⟨ct, bO⟩, dj, H⟩ := G.bi H; replace H : (some bO) = some r := H; obtain rfl := Option.some.inj H; have ⟨cW, cX, cY, cZ⟩ := G.d2 (w := wc) ae; obtain ⟨cu, cv, cw⟩ := Kd.R_slice av.out; subst cw
     go_wp2_with (first | ((with_reducible refine G.f 27 rfl ?_); refine G.gL 33 Try.func27 #[.agg #[.int .i64 aa, .slice cu ac.length cv]] ?_; (with_reducible refine (impl_SideOf.calls a5 aa _ _ ac ct bO _ ?side1 ?side2 dj.out).mono ?_); (case side1 => exact G.cC (Kd.R_reads' av.out).2.2); (case side2 => exact (Kd.R_reads' av.out).2.1); rintro e dK ⟨dC, rfl, aj, hb⟩; refine ⟨_, rfl, ?_⟩; have n0 := G.rb av hb; have n1 := G.rb ak hb; have n2 := G.m (Kd.R_lower aj (below_size (G.cB HB.out))); have n3 := G.bb ae hb; have n4 := G.bs HB hb; clear av ak ae HB; revert n0 n1 n2 n3 n4; intro av ak dq ae HB; (try clear hb aj)))
     go_ret
     exact ⟨cadR, G.cB HB.out⟩

end Go.Proofs.Ytddadihobjinhaa.P
