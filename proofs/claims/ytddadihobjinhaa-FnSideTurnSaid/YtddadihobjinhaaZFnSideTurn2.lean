/- The proof's parts ahead of the row: of no condition of their own. -/
import Derived.Test.YtddadihobjinhaaZFnSideTurn1
import Derived.Sort.Grow
import Derived.Lib.SliceRun
set_option linter.unusedVariables false
set_option linter.unusedSimpArgs false
namespace Go.Proofs.Ytddadihobjinhaa.P
open Go.RowKit Go.Lib Go.Sort Go.Proofs.YtddadihobjinhaaW.PrintWords Go.Proofs.YtddadihobjinhaaW.PrintLast Go.Proofs.YtddadihobjinhaaW.PrintMore Go.Proofs.Ytddadihobjinhaa.G
def cmpL : List Int → List Int → Int
 | [], [] => 0
 | [], _ :: _ => -1
 | _ :: _, [] => 1
 | x :: a, y :: b => if cmp3 x y = 0 then cmpL a b else cmp3 x y
def cfW (a b : List Int) : Int := if cmp3 a.length b.length = 0 then cmpL a b else cmp3 a.length b.length
theorem cmp3_zero {x y : Int} : cmp3 x y = 0 ↔ x = y := by unfold cmp3; repeat' split <;> omega
theorem cmp3_neg {x y : Int} : cmp3 x y < 0 ↔ x < y := by unfold cmp3; repeat' split <;> omega
theorem cmpL_neg : ∀ a b : List Int, cmpL a b < 0 ↔ lexlt a b
 | [], [] => by simp [cmpL, lexlt]
 | [], _ :: _ => by simp [cmpL, lexlt]
 | _ :: _, [] => by simp [cmpL, lexlt]
 | x :: a, y :: b => by
  unfold cmpL lexlt
  by_cases c : cmp3 x y = 0
  ·rw [if_pos c, cmpL_neg a b]
   have := cmp3_zero.1 c
   constructor
   ·intro h; exact .inr ⟨this, h⟩
   ·rintro (h | h)
    ·omega
    ·exact h.2
  ·rw [if_neg c, cmp3_neg]
   constructor
   ·intro h; exact .inl h
   ·rintro (h | h)
    ·exact h
    ·exact absurd (cmp3_zero.2 h.1) c
theorem cfW_neg (a b : List Int) : cfW a b < 0 ↔ wlt a b := by
 unfold cfW wlt
 by_cases c : cmp3 (a.length : Int) b.length = 0
 ·rw [if_pos c, cmpL_neg]
  have := cmp3_zero.1 c
  constructor
  ·intro h; exact .inr ⟨by omega, h⟩
  ·rintro (h | h)
   ·omega
   ·exact h.2
 ·rw [if_neg c, cmp3_neg]
  constructor
  ·intro h; exact .inl (by omega)
  ·rintro (h | h)
   ·omega
   ·exact absurd (cmp3_zero.2 (by omega)) c
theorem cmpS_l0 : ∀ (a b p q : List Int), p.length = q.length → (p ++ a).length ≤ 9223372036854775807 →
  Ev (fun k => slices_Compare_int_int.l0 k (p ++ a) (q ++ b) (p ++ a) ((p ++ a).length : Int) (p.length : Int)) (cmpL a b)
 | [], b, p, q, h, hb => by
  refine Ev.step (fun k => by simp only [slices_Compare_int_int.l0, nlt_end, if_false] <;> exact rfl) ?_
  refine Ev.val ?_
  cases b with
  | nil => rw [if_neg (by simp; omega)]; rfl
  | cons y b => rw [if_pos (by simp; omega)]; rfl
 | x :: a, [], p, q, h, hb => by
  have h2 : (p.length : Int) ≥ ((q ++ []).length : Int) := by simp; omega
  refine Ev.step (fun k => by simp only [slices_Compare_int_int.l0, lt_mid, nn, if_true, if_pos h2] <;> exact rfl) ?_
  exact Ev.val rfl
 | x :: a, y :: b, p, q, h, hb => by
  have h2 : ¬ (p.length : Int) ≥ ((q ++ y :: b).length : Int) := by simp; omega
  have h3 : (p.length : Int) < ((q ++ y :: b).length : Int) := by simp; omega
  have e1 : rd (q ++ y :: b) (p.length : Int) = y := by rw [h]; exact rd_mid q y b
  have w : wrap64 ((p.length : Int) + 1) = ((p ++ [x]).length : Int) := by
   rw [List.length_append, List.length_cons] at hb
   rw [w64 (by omega) (by omega)]; simp
  refine Ev.step (fun k => by simp only [slices_Compare_int_int.l0, lt_mid, nn, if_true, if_neg h2, if_pos h3, rd_mid, e1, cmp_eq, Option.bind_some, w] <;> exact rfl) ?_
  unfold cmpL
  by_cases c : cmp3 x y = 0
  ·simp only [if_pos c]
   rw [app_one p x a, app_one q y b]
   exact cmpS_l0 a b (p ++ [x]) (q ++ [y]) (by simp [h]) (by rw [← app_one]; exact hb)
  ·simp only [if_neg c]
   exact Ev.val rfl
theorem cmpS_ev (a b : List Int) (ha : a.length ≤ 9223372036854775807) : Ev (fun k => slices_Compare_int_int.f k a b) (cmpL a b) := by
 unfold slices_Compare_int_int.f
 exact cmpS_l0 a b [] [] rfl ha
theorem lit2_grow {P : Program} {ops : Array Oper} {rest : List Oper} {o : Oper} {a : Act} {Q : Exit → Act → World → Prop} {W V : World} {x y : Int} {e : Nat} (hgd : o.guard = none)
  (hrun : (execOp a.eval o).run P V = .ok (.value (.slice (some ⟨V.heap.size, 0, none⟩) 2 2)) (V.alloc (.cells #[.int .i64 x, .int .i64 y] e))) (hV : ∃ q, V = W.drewN q)
  (h : ∀ ad w1, Kd.C (Kd.int .i64) w1 (some ad) [x, y].length [x, y] → (∃ q os, w1 = grow (W.drewN q) os) → wpList P ops Q rest (a.put o.dst (.slice (some ad) 2 2)) w1) : wpList P ops Q (o :: rest) a V := by
 refine Kd.event_run hgd hrun (h ⟨V.heap.size, 0, none⟩ _ ?_ ?_)
 ·have bn := blk_new V (.cells #[.int .i64 x, .int .i64 y] e (0, 0))
  refine Kd.C_of_reads (d := (0 : Int)) (h1 := fun _ => rfl) ⟨rfl, by simp, fun hn => ⟨_, rfl, fun j hj => ?_⟩⟩
  match j, hj with
  | 0, _ => exact (blk_cell bn 0).trans rfl
  | 1, _ => exact (blk_cell bn 1).trans rfl
 ·obtain ⟨q, rfl⟩ := hV
  exact ⟨q, _, alloc_eq_grow _ _⟩
set_option maxHeartbeats 4000000 in
set_option maxRecDepth 100000 in
theorem wayOrder_at (A0 : Option Addr) (c0 : Nat) (l0 : List Int) (A1 : Option Addr) (c1 : Nat) (l1 : List Int) (W : World) (hr0 : Kd.C (Kd.int .i64) W A0 l0.length l0) (hc0 : l0.length ≤ c0) (hr1 : Kd.C (Kd.int .i64) W A1 l1.length l1) (hc1 : l1.length ≤ c1) :
  Calls Try.prog 77 #[.slice A0 l0.length c0, .slice A1 l1.length c1] W fun e w' => e = .returned (.int .i64 (cfW l0 l1)) ∧ ∃ q os', w' = grow (W.drewN q) os' := by
 obtain ⟨k, hk⟩ := Ev.rounds (cmpS_ev l0 l1 hr0.2.1)
 obtain ⟨k2, hk2⟩ := Ev.rounds (or_two (cmp3 l0.length l1.length) (cmpL l0 l1))
 obtain ⟨r, hr⟩ : ∃ r : Int, (if cmp3 l0.length l1.length = 0 then cmpL l0 l1 else cmp3 l0.length l1.length) = r := ⟨_, rfl⟩
 rw [hr] at hk2
 have HR0 := Aside0.mk hr0
 have HC0 := Aside0.mk hc0
 have HR1 := Aside0.mk hr1
 have HC1 := Aside0.mk hc1
 have A3 := Aside0.mk (cmp_eq l0.length l1.length)
 have A4 := Aside0.mk hk
 have A5 := Aside0.mk hk2
 have HR := Aside0.mk hr
 clear hr0 hc0 hr1 hc1 hk hk2 hr
 go_enter Try.func77, Try.ntmps77
 go_wp2_with (first
  | ((with_reducible refine gate_callee (f := 90) rfl ?_); refine goesL_ (some 9) rfl rfl Try.func90 (by kernel_rfl) rfl #[.int .i64 (l0.length : Int), .int .i64 (l1.length : Int)] rfl (G.ar) ?_; (with_reducible refine (cmp_Compare_int.calls (l0.length : Int) (l1.length : Int) _ _ A3.out).mono ?_); rintro e w' ⟨rfl, ⟨nd, rfl⟩⟩; refine ⟨_, rfl, ?_⟩)
  | ((with_reducible refine gate_callee (f := 91) rfl ?_); refine goesL_ (some 12) rfl rfl Try.func91 (by kernel_rfl) rfl #[.slice A0 l0.length c0, .slice A1 l1.length c1] rfl (G.ar) ?_; (with_reducible refine (slices_Compare_int_int.calls k _ _ l0 _ _ l1 _ _ ?side1 ?side2 ?side3 ?side4 A4.out).mono ?_); (case side1 => repeat (first | exact HR0.out | (with_reducible refine Kd.C_alloc ?_ _) | (with_reducible refine Kd.C_drewN ?_ _) | (with_reducible refine Kd.C_drew ?_))); (case side2 => exact HC0.out); (case side3 => repeat (first | exact HR1.out | (with_reducible refine Kd.C_alloc ?_ _) | (with_reducible refine Kd.C_drewN ?_ _) | (with_reducible refine Kd.C_drew ?_))); (case side4 => exact HC1.out); rintro e w' ⟨rfl, ⟨nd2, rfl⟩⟩; refine ⟨_, rfl, ?_⟩)
  | ((with_reducible refine gate_dst (N := 13) rfl ?_); refine lit2_grow (W := W) (x := cmp3 l0.length l1.length) (y := cmpL l0 l1) (e := 3) rfl (by first | (go_simp; done) | (go_simp; rfl)) ⟨nd + nd2, by simp [World.drewN, Nat.add_assoc]⟩ ?_; intro ad w6 hl_ hg_; have HL := Aside0.mk hl_; have HG := Aside0.mk hg_; clear hl_ hg_)
  | ((with_reducible refine gate_callee (f := 89) rfl ?_); refine goesL_ (some 14) rfl rfl Try.func89 (by kernel_rfl) rfl #[.slice (some ad) 2 2] rfl (G.ar) ?_; (refine (cmp_Or_int.calls k2 (some ad) 2 [cmp3 l0.length l1.length, cmpL l0 l1] r _ ?side1 ?side2 A5.out).mono ?_); (case side1 => exact HL.out); (case side2 => exact Nat.le_refl _); rintro e w' ⟨rfl, ⟨nd3, rfl⟩⟩; refine ⟨_, rfl, ?_⟩))
 go_ret
 refine ⟨?_, ?_⟩
 ·rw [← HR.out]
  rfl
 ·obtain ⟨q, os, e⟩ := HG.out
  rw [e]
  refine ⟨q + nd3, os, ?_⟩
  show grow ((W.drewN q).drewN nd3) _ = _
  congr 1
  simp [World.drewN, Nat.add_assoc]
end Go.Proofs.Ytddadihobjinhaa.P
namespace Go.Proofs.Ytddadihobjinhaa.P
open Go.RowKit Go.Proofs.YtddadihobjinhaaW.PrintWords Go.Proofs.YtddadihobjinhaaW.PrintLast Go.Proofs.YtddadihobjinhaaW.PrintMore
attribute [local go_sem] max2_int min2_int max_two min_two max_three min_three max_four min_four   -- for this text's walks alone
def slices_Clone_int_int.f (l0 : List Int) : Option (List Int) := (some (([] : List Int) : List Int)).bind fun aa => (if aa.length + l0.length < 17592186044416 then (some (aa ++ l0)) else (none))
set_option maxHeartbeats 8000000 in
set_option maxRecDepth 100000 in
theorem slices_Clone_int_int.calls (A0 : Option Addr) (c0 : Nat) (l0 : List Int) (r : List Int) (w : World) (al : Kd.C (Kd.int .i64) w A0 l0.length l0) (am : l0.length ≤ c0) (h : slices_Clone_int_int.f l0 = some r) :
  Calls Try.prog 86 #[.slice A0 l0.length c0] w fun e w' => ∃ ao : Value, e = .returned (ao) ∧ Kd.R (Kd.int .i64) 3 w' w.heap.size (fun _ => True) ao r ∧ Below w.heap.size w w' := by
 have ap := G.m al; have aw := G.m am; clear al am; have HB := G.m (Below.refl w.heap.size w); have H : ((some (([] : List Int) : List Int)).bind fun aa => (if aa.length + l0.length < 17592186044416 then (some (aa ++ l0)) else (none))) = some r := h; clear h; obtain ⟨aa, ab⟩ : ∃ y_ : List Int, y_ = (([] : List Int)) := ⟨_, rfl⟩; replace H : (if aa.length + l0.length < 17592186044416 then (some (aa ++ l0)) else (none)) = some r := by first | (rw [ab]; with_reducible exact H) | (have ae := (Option.bind_some _ _).symm.trans H; rw [ab]; with_reducible exact ae) | (have ae := (Option.bind_some _ _).symm.trans H; with_reducible exact ae) | with_reducible exact H | (rw [ab]; exact H) | exact H
 have af := G.m ab; clear ab
 by_cases c2 : aa.length + l0.length < 17592186044416
 ·rw [if_pos c2] at H; have aq := G.m c2; clear c2; obtain ⟨aj, ac⟩ : ∃ y_ : List Int, y_ = (aa ++ l0) := ⟨_, rfl⟩; replace H : (some aj) = some r := by first | (rw [ac]; with_reducible exact H) | (have ae := (Option.bind_some _ _).symm.trans H; rw [ac]; with_reducible exact ae) | (have ae := (Option.bind_some _ _).symm.trans H; with_reducible exact ae) | with_reducible exact H | (rw [ac]; exact H) | exact H
  have ah := G.m ac; clear ac; obtain rfl := Option.some.inj H; have ax : ∀ (w : World) (a : Option Addr) (n c n' c' : Nat), (binOp .eql 25 (.slice a n c) (.slice none n' c')).run Try.prog w = .ok (.bool a.isNone) w := fun w a n c n' c' => Go.Lib.run_eql_slice_nil w _ _ a n c n' c' Try.underlying25
  rcases A0 with _ | ay
  ·have e0 : l0 = [] := by
    have h_ := ap.out
    rcases l0 with _ | ⟨q, r⟩
    ·rfl
    ·obtain ⟨ad, h, _⟩ := h_.2.2 (by simp); exact absurd h (by simp)
   subst e0; have ey : aj = [] := by rw [ah.out, af.out]; rfl
   subst ey
   go_enter Try.func86, Try.ntmps86
   go_wp2
   go_ret
   exact ⟨_, rfl, Kd.R_nil _ _ _ _ _, G.cB HB.out⟩
  go_enter Try.func86, Try.ntmps86
  go_wp2_with (first | ((with_reducible refine G.h 5 rfl ?_); refine Kd.R_lit (Kd.int .i64) _ 3 ?hg (N := 5) ?hd (xs := ([] : List Int)) (inner := []) (ok := fun _ => True) (okp := fun _ => True) ?hr ?hp (fun _ hk => hk) trivial (Below.refl _ _) (Nat.le_refl _) (by simp) ?_; (case hd => rfl); (case hg => rfl); (case hr => first | (go_simp; done) | (go_simp; rfl)); (case hp => exact (Reps.none _ _)); intro au w3 ag hb hg_ hnew_; clear hg_ hnew_; (first | rw [← af.out] at ag | (simp only [Int.reduceToNat] at ag; rw [← af.out] at ag)); have n0 := G.m (Kd.R_lower ag (below_size (G.cB HB.out))); have n1 := G.bs HB hb; clear HB; revert n0 n1; intro ai HB; clear hb ag) | ((with_reducible refine gate_builtin (b := .append) (xs := #[.tmp 5, .tmp 6]) rfl ?_); at_builtin; refine Kd.R_append_rows (Kd.int .i64) (w0 := w) w.heap.size rfl (.tmp 5) (.tmp 6) 25 3 (.int .i64 0) 8 rfl Try.underlying25 info3 rfl (by decide) (by omega) au aa l0 _ _ _ (fun _ => True) (fun _ => False) rfl rfl ?aO ?aR (fun _ _ h => h) (fun _ h => h.elim) ?aF ?aB ?aS ?aL ?_; (case aR => exact G.cC (Kd.C_below ap.out HB.out)); (case aB => exact (G.cB HB.out)); (case aF => exact (fun _ _ => trivial)); (case aO => exact (G.cR ai.out)); (case aS => exact (below_size (G.cB HB.out))); (case aL => have := aq.out; omega); intro av w5 ho hb hg hat; rw [← ah.out] at ho; have n0 := G.m (hb); have n1 := G.m (ho); clear HB ai; revert n0 n1; intro HB ak; clear ho hb hg hat))
  go_ret
  exact ⟨_, by first | rfl | (simp [errW_none, errW_some] <;> rfl) | (simp [*, errW_none, errW_some] <;> rfl), G.cR ak.out, G.cB HB.out⟩
 ·rw [if_neg c2] at H; exact absurd H (by simp)
end Go.Proofs.Ytddadihobjinhaa.P
namespace Go.Proofs.Ytddadihobjinhaa.P
open Go.RowKit Go.Proofs.YtddadihobjinhaaW.PrintWords
theorem grown_of_below {w w1 : World} (h : Below w.heap.size w w1) (row : Option Nat) : w.grownBy w1 row := ⟨h.os, h.tape, h.output, h.size, fun k hk _ => h.block k hk⟩
structure LX (w0 w : World) (A1 : Option Addr) (c1 : Nat) (l1 : List Int) (vo v : Value) (out : List (List Int)) (W : World) : Prop where
 b : Below w0.heap.size w0 W
 way : Kd.R (Kd.int .i64) 3 W w0.heap.size (fun _ => True) (.slice A1 l1.length c1) l1
 row : Kd.S (Kd.slice 3 (Kd.int .i64)) 25 W w0.heap.size (fun _ => True) v out
 g : w.grownBy W vo.ownBlock
 at_ : v.ownBlock = vo.ownBlock ∨ ∃ b, v.ownBlock = some b ∧ w.heap.size ≤ b
section
variable {w0 w W W' : World} {A1 : Option Addr} {c1 : Nat} {l1 : List Int} {vo v v1 : Value} {out out1 : List (List Int)}
theorem LX.start (hb : Below w0.heap.size w0 w) (h1 : Kd.R (Kd.int .i64) 3 w w0.heap.size (fun _ => True) (.slice A1 l1.length c1) l1) (h2 : Kd.S (Kd.slice 3 (Kd.int .i64)) 25 w w0.heap.size (fun _ => True) vo out) : LX w0 w A1 c1 l1 vo vo out w :=
 ⟨hb, h1, h2, grown_of_below (Below.refl _ _) _, .inl rfl⟩
theorem LX.below (h : LX w0 w A1 c1 l1 vo v out W) (hb : Below W.heap.size W W') : LX w0 w A1 c1 l1 vo v out W' :=
 ⟨below_step h.b hb, Kd.R_below h.way hb, Kd.S_below h.row hb, World.grownBy.trans h.g (grown_of_below hb _), h.at_⟩
theorem LX.fin (h : LX w0 w A1 c1 l1 vo v out W) : Kd.S (Kd.slice 3 (Kd.int .i64)) 25 W w0.heap.size (fun _ => True) v out ∧ Below w0.heap.size w0 W ∧ w.grownBy W vo.ownBlock ∧ (v.ownBlock = vo.ownBlock ∨ ∃ b, v.ownBlock = some b ∧ w.heap.size ≤ b) := ⟨h.row, h.b, h.g, h.at_⟩
theorem LX.step (h : LX w0 w A1 c1 l1 vo v out W) (hS : Kd.S (Kd.slice 3 (Kd.int .i64)) 25 W' w0.heap.size (fun _ => True) v1 out1) (hb : Below w0.heap.size w0 W') (hg : W.grownBy W' v.ownBlock) (hat : v1.ownBlock = v.ownBlock ∨ ∃ b, v1.ownBlock = some b ∧ W.heap.size ≤ b) : LX w0 w A1 c1 l1 vo v1 out1 W' := by
 refine ⟨hb, Kd.R_over' h.way (Kd.S_typed h.row) (by decide) hg, hS, ⟨hg.os.trans h.g.os, hg.tape.trans h.g.tape, hg.output.trans h.g.output, Nat.le_trans h.g.size hg.size, fun k hk hne => ?_⟩, ?_⟩
 ·refine (hg.block k (Nat.lt_of_lt_of_le hk h.g.size) (fun e => ?_)).trans (h.g.block k hk hne)
  rcases h.at_ with q | ⟨b, q, hb⟩
  ·exact hne (e.trans q)
  ·rw [q] at e
   injection e with e
   omega
 ·rcases hat with q | ⟨b, q, hb2⟩
  ·rw [q]; exact h.at_
  ·exact .inr ⟨b, q, Nat.le_trans h.g.size hb2⟩
theorem LX.app {w1 : World} (hB : Below w.heap.size w w1) (ho : Kd.S (Kd.slice 3 (Kd.int .i64)) 25 W w0.heap.size (fun _ => True) v out) (hb : Below w0.heap.size w0 W) (hg : w1.grownBy W vo.ownBlock) (hat : v.ownBlock = vo.ownBlock ∨ ∃ b, v.ownBlock = some b ∧ w1.heap.size ≤ b) : Kd.S (Kd.slice 3 (Kd.int .i64)) 25 W w0.heap.size (fun _ => True) v out ∧ Below w0.heap.size w0 W ∧ w.grownBy W vo.ownBlock ∧ (v.ownBlock = vo.ownBlock ∨ ∃ b, v.ownBlock = some b ∧ w.heap.size ≤ b) :=
 ⟨ho, hb, World.grownBy.trans (grown_of_below hB _) hg, hat.imp id (fun ⟨b, e1, e2⟩ => ⟨b, e1, Nat.le_trans hB.size e2⟩)⟩
end
end Go.Proofs.Ytddadihobjinhaa.P
namespace Go.Proofs.Ytddadihobjinhaa.P
open Go.RowKit Go.Proofs.YtddadihobjinhaaW.PrintWords Go.Proofs.YtddadihobjinhaaW.PrintLast Go.Proofs.YtddadihobjinhaaW.PrintMore
attribute [local go_sem] max2_int min2_int max_two min_two max_three min_three max_four min_four
mutual
def impl_Net_ways.l0 : Nat → List Int → Int → List (List Int) → Int → Int → Int → Int → List (S53) → Option (List (List Int))
 | 0, _, _, _, _, _, _, _, _ => none
 | k + 1, x1, x2, x3, x9, x26, x27, x417000, x417001 => if x27 < x26 then ((impl_Net_has.f k x417000 x417001 x9 x27).bind fun t421 => (if t421 = true then ((slices_Contains_int_int.f k x1 x27).bind fun t422 => (impl_Net_ways.j1 k x1 x2 x3 x9 x27 x26 x27 (!t422) x417000 x417001)) else (impl_Net_ways.j1 k x1 x2 x3 x9 x27 x26 x27 false x417000 x417001))) else (some x3)
def impl_Net_ways.j1 : Nat → List Int → Int → List (List Int) → Int → Int → Int → Int → Bool → Int → List (S53) → Option (List (List Int))
 | 0, _, _, _, _, _, _, _, _, _, _ => none
 | k + 1, x1, x2, x3, x9, x10, x26, x27, x39, x417000, x417001 => if x39 = true then ((slices_Clone_int_int.f x1).bind fun t423 => ((some (([x10] : List Int) : List Int)).bind fun y426 => (if t423.length + y426.length < 17592186044416 then ((impl_Net_ways.f k x417000 x417001 (t423 ++ y426) x2 x3).bind fun t432 => (impl_Net_ways.l0 k x1 x2 t432 x9 x26 (wrap64 (x27 + 1)) x417000 x417001)) else (none)))) else (impl_Net_ways.l0 k x1 x2 x3 x9 x26 (wrap64 (x27 + 1)) x417000 x417001)
def impl_Net_ways.f : Nat → Int → List (S53) → List Int → Int → List (List Int) → Option (List (List Int))
 | 0, _, _, _, _, _ => none
 | k + 1, a0_0, l0_1, l1, a2, a3 => if 0 ≤ (wrap64 ((l1.length : Int) - 1)) then (if (wrap64 ((l1.length : Int) - 1)) < (l1.length : Int) then (if (rd l1 (wrap64 ((l1.length : Int) - 1))) = a2 then ((slices_Clone_int_int.f l1).bind fun t418 => (if a3.length < 5864062014805 then (some (a3 ++ [t418])) else (none))) else (impl_Net_ways.l0 k l1 a2 a3 (rd l1 (wrap64 ((l1.length : Int) - 1))) a0_0 0 a0_0 l0_1)) else (none)) else (none)
end
def impl_Net_ways.T8 : Bool × List (List Nat × List Nat) := (true, [([], []), ([], []), ([1], [1]), ([], []), ([3], [3]), ([2, 4, 2], [2, 4]), ([], []), ([], []), ([0, 5, 6, 7, 5], [0, 5, 6, 7]), ([8, 8, 0, 1, 2, 3, 4, 5, 6, 7, 8], [7, 8])])
def impl_Net_ways.B8 : List Nat := [0, 0, 2, 0, 8, 30, 0, 0, 255, 511]
theorem impl_Net_ways.tab8 : rtab .any (opsOf Try.f75 8) = impl_Net_ways.T8 := by kernel_rfl
theorem impl_Net_ways.bits8 : waitsOk impl_Net_ways.T8.2 impl_Net_ways.B8 = true := by kernel_rfl
set_option maxHeartbeats 8000000 in
set_option maxRecDepth 100000 in
theorem impl_Net_ways.calls (k : Nat) : ∀ (a0_0 : Int) (A0_1 : Option Addr) (c0_1 : Nat) (l0_1 : List (S53)) (A1 : Option Addr) (c1 : Nat) (l1 : List Int) (a2 : Int) (vo : Value) (a3 : List (List Int)) (r : List (List Int)) (w0 w : World) (hr0_1 : Kd.C k53 w0 A0_1 l0_1.length l0_1) (hc0_1 : l0_1.length ≤ c0_1) (hB0 : Below w0.heap.size w0 w) (hX : Kd.R (Kd.int .i64) 3 w w0.heap.size (fun _ => True) (.slice A1 l1.length c1) l1 ∧ Kd.S (Kd.slice 3 (Kd.int .i64)) 25 w w0.heap.size (fun _ => True) vo a3) (h : impl_Net_ways.f k a0_0 l0_1 l1 a2 a3 = some r),
  Calls Try.prog 75 #[.agg #[.int .i64 a0_0, .slice A0_1 l0_1.length c0_1], .slice A1 l1.length c1, .int .i64 a2, vo] w fun e w' => ∃ v1_ : Value, e = .returned v1_ ∧ Kd.S (Kd.slice 3 (Kd.int .i64)) 25 w' w0.heap.size (fun _ => True) v1_ r ∧ Below w0.heap.size w0 w' ∧ w.grownBy w' vo.ownBlock ∧ (v1_.ownBlock = vo.ownBlock ∨ ∃ b, v1_.ownBlock = some b ∧ w.heap.size ≤ b) := by
 induction k using Nat.strongRecOn with
 | _ k ih =>
 intro a0_0 A0_1 c0_1 l0_1 A1 c1 l1 a2 vo a3 r w0 w hr0_1 hc0_1 hB0 hX h
 cases k with
 | zero => exact absurd h (by simp [impl_Net_ways.f])
 | succ k =>
 simp only [impl_Net_ways.f] at h
 have hu30 := Try.underlying30
 have HRA := G.m hr0_1
 have HR0_1 := G.m (Kd.C_below hr0_1 hB0)
 have HC0_1 := G.m hc0_1
 clear hr0_1 hc0_1
 have HB0 := G.m hB0
 have HX := G.m (LX.start hB0 hX.1 hX.2)
 have HR1 := G.m (Kd.R_reads' hX.1).2.2
 have HC1 := G.m (Kd.R_reads' hX.1).2.1
 clear hB0 hX
 have HB := G.m (Below.refl w.heap.size w)
 have H : (if 0 ≤ (wrap64 ((l1.length : Int) - 1)) then (if (wrap64 ((l1.length : Int) - 1)) < (l1.length : Int) then (if (rd l1 (wrap64 ((l1.length : Int) - 1))) = a2 then ((slices_Clone_int_int.f l1).bind fun t418 => (if a3.length < 5864062014805 then (some (a3 ++ [t418])) else (none))) else (impl_Net_ways.l0 k l1 a2 a3 (rd l1 (wrap64 ((l1.length : Int) - 1))) a0_0 0 a0_0 l0_1)) else (none)) else (none)) = some r := h
 clear h
 obtain ⟨ji5, hji5⟩ : ∃ j_ : Int, (wrap64 ((l1.length : Int) - 1)) = j_ := ⟨_, rfl⟩
 replace H : (if 0 ≤ (ji5) then (if (ji5) < (l1.length : Int) then (if (rd l1 (ji5)) = a2 then ((slices_Clone_int_int.f l1).bind fun t418 => (if a3.length < 5864062014805 then (some (a3 ++ [t418])) else (none))) else (impl_Net_ways.l0 k l1 a2 a3 (rd l1 (ji5)) a0_0 0 a0_0 l0_1)) else (none)) else (none)) = some r := by first | (rw [hji5] at H; exact H) | (simp only [hji5] at H ⊢; exact H)
 have hji5w : (IntKind.i64.wrap ((l1.length : Int) - 1)) = ji5 := (i64_w _).trans hji5
 by_cases c6 : 0 ≤ (ji5)
 ·rw [if_pos c6] at H
  have c6b0 : decide (0 ≤ (ji5)) = true := decide_eq_true c6
  clear c6
  by_cases c7 : (ji5) < (l1.length : Int)
  ·rw [if_pos c7] at H
   have c7b0 : decide ((ji5) < (l1.length : Int)) = true := decide_eq_true c7
   clear c7
   by_cases c8 : (rd l1 (ji5)) = a2
   ·rw [if_pos c8] at H
    have c8b0 : ((rd l1 (ji5)) == a2) = true := beq_iff_eq.mpr c8
    have c8b1 : ((rd l1 (ji5)) != a2) = false := bne_eq_false_iff_eq.mpr c8
    clear c8
    obtain ⟨t418, A9, H⟩ := G.bi H
    replace H : (if a3.length < 5864062014805 then (some (a3 ++ [t418])) else (none)) = some r := H
    by_cases cLw : a3.length < 5864062014805
    ·rw [if_pos cLw] at H
     have LMw := G.m cLw
     clear cLw
     obtain rfl := Option.some.inj H
     go_enter Try.func75, Try.ntmps75
     go_wp2_with (first | ((with_reducible refine G.h 4 rfl ?_); refine G.be 4 #[.int .i64 a0_0, .slice A0_1 l0_1.length c0_1] 30 ?_; intro gb416 hg w10 hbox hb; have n0 := G.bs HB hb; have n1 := G.m (hbox); have n2 := G.m ((by rw [hg]; exact (below_size (G.cB HB.out)) : w.heap.size ≤ gb416)); have n3 := G.m ((by rw [hg]; exact (below_size (G.cB HB.out)) : w.heap.size ≤ gb416)); clear HB; revert n0 n1 n2 n3; intro HB BK416 GW416 GE416; clear hb hbox hg; have p417 : 0 ≤ ((ji5) : Int) := of_decide_eq_true (G.asm); have q417 : (ji5) < (l1.length : Int) := of_decide_eq_true (G.asm); obtain ⟨ad417, e417, hx417_0⟩ := Kd.at_int HR1.out (ji5) p417 q417; cases e417; replace hx417_0 := G.hx HB hx417_0; replace p417 := eq_true p417; replace q417 := eq_true q417) | ((with_reducible refine G.f 86 rfl ?_); refine G.gL 22 Try.func86 #[.slice (some ad417) l1.length c1] ?_; (with_reducible refine (slices_Clone_int_int.calls _ _ l1 t418 _ ?side1 ?side2 A9.out).mono ?_); (case side1 => exact G.cC (Kd.C_below HR1.out HB.out)); (case side2 => exact HC1.out); rintro e w11 ⟨v419, rfl, ho0, hb⟩; refine ⟨_, rfl, ?_⟩; have n0 := G.m (Kd.R_lower ho0 (below_size (G.cB HB.out))); have n1 := G.bb BK416 hb; have n2 := G.bs HB hb; clear BK416 HB; revert n0 n1 n2; intro HO420 BK416 HB; (try clear hb ho0); obtain ⟨Aow, cow, eow⟩ := Kd.R_slice HO420.out; subst eow) | ((with_reducible refine gate_builtin (b := .append) (xs := #[.tmp 20, .tmp 23]) rfl ?_); at_builtin; refine Kd.S_append (Kd.slice 3 (Kd.int .i64)) (w0 := w0) w0.heap.size rfl (.tmp 20) (.tmp 23) 63 25 (.slice none 0 0) 24 rfl Try.underlying63 info25 rfl (by decide) (by omega) vo a3 t418 [.slice Aow t418.length cow] (fun _ => True) (fun k_ => some k_ = (.slice Aow t418.length cow : Value).ownBlock) rfl rfl ?aP (fun k_ hk_ => ⟨trivial, fun e_ => by have h1_ := Kd.S_lt HX.out.row k_ e_.symm; have h2_ := Kd.R_base HO420.out k_ hk_.symm; omega⟩) ?aF ?aO ?aB ?aS ?aL ?_; (case aP => exact Kd.M_row (Kd.R_mono (Kd.R_tight rfl (Kd.R_lower HO420.out HB0.out.size)) (fun _ h_ => h_))); (case aB => exact (below_step HB0.out (G.cB HB.out))); (case aF => exact (fun _ _ => trivial)); (case aO => exact Kd.S_mono (Kd.S_below (Kd.S_bound HX.out.row) (G.cB HB.out)) (fun k_ hk => ⟨trivial, fun e_ => by have h2_ := Kd.R_base HO420.out k_ e_.symm; have h3_ := hk.2.2.1; omega⟩)); (case aS => exact Nat.le_trans HB0.out.size (below_size (G.cB HB.out))); (case aL => have := LMw.out; omega); intro vw_ ww_ ho hb hg hat; have HF := G.m (LX.app (G.cB HB.out) ho hb hg hat); clear ho hb hg hat BK416 HB))
     go_ret
     exact ⟨_, by first | rfl | (simp [errW_none, errW_some] <;> rfl), HF.out⟩
    ·rw [if_neg cLw] at H
     exact absurd H (by simp)
   ·rw [if_neg c8] at H
    have c8b0 : ((rd l1 (ji5)) == a2) = false := beq_eq_false_iff_ne.mpr c8
    have c8b1 : ((rd l1 (ji5)) != a2) = true := bne_iff_ne.mpr c8
    have H' := G.m H
    clear H
    go_enter Try.func75, Try.ntmps75
    go_wp2_with (first | ((with_reducible refine G.h 4 rfl ?_); refine G.be 4 #[.int .i64 a0_0, .slice A0_1 l0_1.length c0_1] 30 ?_; intro gb416 hg w12 hbox hb; have n0 := G.bs HB hb; have n1 := G.m (hbox); have n2 := G.m ((by rw [hg]; exact (below_size (G.cB HB.out)) : w.heap.size ≤ gb416)); have n3 := G.m ((by rw [hg]; exact (below_size (G.cB HB.out)) : w.heap.size ≤ gb416)); clear HB; revert n0 n1 n2 n3; intro HB BK416 GW416 GE416; clear hb hbox hg; have p417 : 0 ≤ ((ji5) : Int) := of_decide_eq_true (G.asm); have q417 : (ji5) < (l1.length : Int) := of_decide_eq_true (G.asm); obtain ⟨ad417, e417, hx417_0⟩ := Kd.at_int HR1.out (ji5) p417 q417; cases e417; replace hx417_0 := G.hx HB hx417_0; replace p417 := eq_true p417; replace q417 := eq_true q417; have ⟨hcz13_0, hcz13_1, hfz13_0, hfz13_1⟩ := G.d2 (w := w12) BK416))
    go_loopg [3, 27] k (fun kq v3 v27 w' => ∃ (vq : Value) (x3_1 : List (List Int)) (x27_1 : Int), vq = v3 ∧ v27 = .int .i64 x27_1 ∧ Aside0 (impl_Net_ways.l0 kq l1 a2 x3_1 (rd l1 (ji5)) a0_0 x27_1 a0_0 l0_1 = some r) ∧ Aside0 (kq ≤ k) ∧ Aside0 (w'.heap[gb416]? = some (.cells #[.int .i64 a0_0, (.slice A0_1 l0_1.length c0_1)] 30 (0, 0))) ∧ Aside0 (LX w0 w (some ad417) c1 l1 vo vq x3_1 w'))
    case atStart => exact ⟨vo, a3, (0), rfl, (by first | rfl | (simp; done) | (simp [*]; done)), H', ⟨Nat.le_refl _⟩, ⟨G.cb BK416.out⟩, ⟨LX.below HX.out (G.cB HB.out)⟩⟩
    case round =>
     clear H'
     (try clear c1 c6b0 c7b0 c8 c8b0 c8b1 hcz13_0 hcz13_1 hfz13_0 hfz13_1 hx417_0 p417 q417)
     obtain ⟨vq, x3_1, x27_1, rfl, rfl, HA, HK1, BK416, HL⟩ := hrel
     clear HR0_1 HR1 HB
     have HR0_1 := G.m (Kd.C_below HRA.out HL.out.b)
     have HR1 := G.m (Kd.R_reads' HL.out.way).2.2
     have HB := G.m (Below.refl wr.heap.size wr)
     cases gk with
     | zero => exact absurd HA.out (by simp [impl_Net_ways.l0])
     | succ k1 =>
      have H := HA.out
      clear HA
      simp only [impl_Net_ways.l0] at H
      by_cases c14 : x27_1 < a0_0
      ·rw [if_pos c14] at H
       have c14b0 : decide (x27_1 < a0_0) = true := decide_eq_true c14
       clear c14
       have HC15 := G.m H
       clear H
       go_upto_region 7 with (fail)
       go_cut [39] (fun v39 wc => ∃ (kq : Nat) (x39_14 : Bool), v39 = .bool x39_14 ∧ Aside0 (impl_Net_ways.j1 kq l1 a2 x3_1 (rd l1 (ji5)) x27_1 a0_0 x27_1 x39_14 a0_0 l0_1 = some r) ∧ Aside0 (kq ≤ k1) ∧ Aside0 (wc.heap[gb416]? = some (.cells #[.int .i64 a0_0, (.slice A0_1 l0_1.length c0_1)] 30 (0, 0))) ∧ Aside0 (Below wr.heap.size wr wc))
       case first =>
        have H := HC15.out
        clear HC15
        obtain ⟨t421, A16, H⟩ := G.bi H
        replace H : (if t421 = true then ((slices_Contains_int_int.f k1 l1 x27_1).bind fun t422 => (impl_Net_ways.j1 k1 l1 a2 x3_1 (rd l1 (ji5)) x27_1 a0_0 x27_1 (!t422) a0_0 l0_1)) else (impl_Net_ways.j1 k1 l1 a2 x3_1 (rd l1 (ji5)) x27_1 a0_0 x27_1 false a0_0 l0_1)) = some r := H
        by_cases c17 : t421 = true
        ·subst c17
         have H1 : ((slices_Contains_int_int.f k1 l1 x27_1).bind fun t422 => (impl_Net_ways.j1 k1 l1 a2 x3_1 (rd l1 (ji5)) x27_1 a0_0 x27_1 (!t422) a0_0 l0_1)) = some r := by rw [if_pos rfl] at H; exact H
         clear H
         have H := H1
         clear H1
         obtain ⟨t422, A18, H⟩ := G.bi H
         replace H : (impl_Net_ways.j1 k1 l1 a2 x3_1 (rd l1 (ji5)) x27_1 a0_0 x27_1 (!t422) a0_0 l0_1) = some r := H
         have H' := G.m H
         clear H
         have ⟨hcz19_0, hcz19_1, hfz19_0, hfz19_1⟩ := G.d2 (w := wr) BK416
         go_wp2_with (first | ((with_reducible refine gate_callee (f := 63) rfl ?_); refine goesL_ (some 33) rfl rfl Try.func63 (by kernel_rfl) rfl #[.agg #[.int .i64 a0_0, .slice A0_1 l0_1.length c0_1], .int .i64 (rd l1 (ji5)), .int .i64 x27_1] rfl ((by (try simp only [List.map_toArray, List.map_cons, List.map_nil]); first | done | (simp only [hji5]; rfl) | rfl | (simp only [List.length_drop, List.length_take]; rfl))) ?_; (with_reducible refine (impl_Net_has.calls k1 a0_0 _ _ l0_1 (rd l1 (ji5)) x27_1 true _ ?side1 ?side2 A16.out).mono ?_); (case side1 => exact G.cC (Kd.C_below HR0_1.out HB.out)); (case side2 => exact HC0_1.out); rintro e w20 ⟨rfl, hb⟩; refine ⟨_, rfl, ?_⟩; have n0 := G.bb BK416 hb; have n1 := G.bs HB hb; clear BK416 HB; revert n0 n1; intro BK416 HB; (try clear hb)) | (go_at_call 82; (with_reducible refine (slices_Contains_int_int.calls k1 _ _ l1 x27_1 t422 _ ?side1 ?side2 A18.out).mono ?_); (case side1 => exact G.cC (Kd.C_below HR1.out HB.out)); (case side2 => exact HC1.out); rintro e w' ⟨rfl, ⟨nd, rfl⟩⟩))
         go_meet
         case rel => exact ⟨_, (!t422), ((by first | rfl | (simp; done) | (simp [*]; done))), H', ⟨by have := HK1.out; first | omega | exact Nat.le_refl _⟩, ⟨G.cb BK416.out⟩, ⟨G.cB HB.out⟩⟩
        ·replace c17 := Bool.eq_false_iff.mpr c17
         subst c17
         have H1 : (impl_Net_ways.j1 k1 l1 a2 x3_1 (rd l1 (ji5)) x27_1 a0_0 x27_1 false a0_0 l0_1) = some r := by rw [if_neg (show ¬ (false = true) by decide)] at H; exact H
         clear H
         have H := H1
         clear H1
         have H' := G.m H
         clear H
         have ⟨hcz21_0, hcz21_1, hfz21_0, hfz21_1⟩ := G.d2 (w := wr) BK416
         go_wp2_with (first | ((with_reducible refine gate_callee (f := 63) rfl ?_); refine goesL_ (some 33) rfl rfl Try.func63 (by kernel_rfl) rfl #[.agg #[.int .i64 a0_0, .slice A0_1 l0_1.length c0_1], .int .i64 (rd l1 (ji5)), .int .i64 x27_1] rfl ((by (try simp only [List.map_toArray, List.map_cons, List.map_nil]); first | done | (simp only [hji5]; rfl) | rfl | (simp only [List.length_drop, List.length_take]; rfl))) ?_; (with_reducible refine (impl_Net_has.calls k1 a0_0 _ _ l0_1 (rd l1 (ji5)) x27_1 false _ ?side1 ?side2 A16.out).mono ?_); (case side1 => exact G.cC (Kd.C_below HR0_1.out HB.out)); (case side2 => exact HC0_1.out); rintro e w22 ⟨rfl, hb⟩; refine ⟨_, rfl, ?_⟩; have n0 := G.bb BK416 hb; have n1 := G.bs HB hb; clear BK416 HB; revert n0 n1; intro BK416 HB; (try clear hb)))
         go_meet
         case rel => exact ⟨_, (false), ((by first | rfl | (simp; done) | (simp [*]; done))), H', ⟨by have := HK1.out; first | omega | exact Nat.le_refl _⟩, ⟨G.cb BK416.out⟩, ⟨G.cB HB.out⟩⟩
       case rest =>
        clear HC15
        (try clear c14b0)
        obtain ⟨kq, x39_14, rfl, HA, HJ14, BK416, HB⟩ := hcut
        cases kq with
        | zero => exact absurd HA.out (by simp [impl_Net_ways.j1])
        | succ kj14 =>
         have H := HA.out
         clear HA
         simp only [impl_Net_ways.j1] at H
         by_cases c23 : x39_14 = true
         ·subst c23
          have H1 : ((slices_Clone_int_int.f l1).bind fun t423 => ((some (([x27_1] : List Int) : List Int)).bind fun y426 => (if t423.length + y426.length < 17592186044416 then ((impl_Net_ways.f kj14 a0_0 l0_1 (t423 ++ y426) a2 x3_1).bind fun t432 => (impl_Net_ways.l0 kj14 l1 a2 t432 (rd l1 (ji5)) a0_0 (wrap64 (x27_1 + 1)) a0_0 l0_1)) else (none)))) = some r := by rw [if_pos rfl] at H; exact H
          clear H
          have H := H1
          clear H1
          obtain ⟨t423, A24, H⟩ := G.bi H
          replace H : ((some (([x27_1] : List Int) : List Int)).bind fun y426 => (if t423.length + y426.length < 17592186044416 then ((impl_Net_ways.f kj14 a0_0 l0_1 (t423 ++ y426) a2 x3_1).bind fun t432 => (impl_Net_ways.l0 kj14 l1 a2 t432 (rd l1 (ji5)) a0_0 (wrap64 (x27_1 + 1)) a0_0 l0_1)) else (none))) = some r := H
          obtain ⟨y426, hy426⟩ : ∃ y_ : List Int, y_ = (([x27_1] : List Int)) := ⟨_, rfl⟩
          replace H : (if t423.length + y426.length < 17592186044416 then ((impl_Net_ways.f kj14 a0_0 l0_1 (t423 ++ y426) a2 x3_1).bind fun t432 => (impl_Net_ways.l0 kj14 l1 a2 t432 (rd l1 (ji5)) a0_0 (wrap64 (x27_1 + 1)) a0_0 l0_1)) else (none)) = some r := by first | (rw [hy426]; with_reducible exact H) | (have H2_ := (Option.bind_some _ _).symm.trans H; rw [hy426]; with_reducible exact H2_) | (have H2_ := (Option.bind_some _ _).symm.trans H; with_reducible exact H2_) | with_reducible exact H | (rw [hy426]; exact H) | exact H
          have Ny426 := G.m hy426
          clear hy426
          by_cases c25 : t423.length + y426.length < 17592186044416
          ·rw [if_pos c25] at H
           have LMc25 := G.m c25
           clear c25
           obtain ⟨y429, hy429⟩ : ∃ y_ : List Int, y_ = (t423 ++ y426) := ⟨_, rfl⟩
           replace H : ((impl_Net_ways.f kj14 a0_0 l0_1 y429 a2 x3_1).bind fun t432 => (impl_Net_ways.l0 kj14 l1 a2 t432 (rd l1 (ji5)) a0_0 (wrap64 (x27_1 + 1)) a0_0 l0_1)) = some r := by first | (rw [hy429]; with_reducible exact H) | (have H2_ := (Option.bind_some _ _).symm.trans H; rw [hy429]; with_reducible exact H2_) | (have H2_ := (Option.bind_some _ _).symm.trans H; with_reducible exact H2_) | with_reducible exact H | (rw [hy429]; exact H) | exact H
           have Ny429 := G.m hy429
           clear hy429
           obtain ⟨t432, A26, H⟩ := G.bi H
           replace H : (impl_Net_ways.l0 kj14 l1 a2 t432 (rd l1 (ji5)) a0_0 (wrap64 (x27_1 + 1)) a0_0 l0_1) = some r := H
           have H' := G.m H
           clear H
           try go_wp2
           have n0 := G.m (blk_drew BK416.out)
           have n1 := G.m (below_drew1 HB.out)
           clear BK416 HB
           revert n0 n1
           intro BK416 HB
           refine G.st 10 (S := fun w' => w'.cell? ⟨gb416, 0, none⟩ = some (.int .i64 a0_0) ∧ w'.cell? ⟨gb416, 1, none⟩ = some (.slice A0_1 l0_1.length c0_1)) [] ⟨G.z BK416 0, G.z BK416 1⟩ impl_Net_ways.tab8 impl_Net_ways.bits8 (fun hHeld HT_ HW_ => ?_)
           generalize wc.drew = w27 at BK416 HB hHeld ⊢
           refine G.pu 1 41 2 ?_
           refine G.pu 3 43 10 ?_
           refine G.pu 6 46 74 ?_
           refine G.pu 7 47 202 ?_
           refine G.ta2 0 40 203 ?_
           refine join_ (σ := Value × Value) 3 (G.fl 10 223) (fun s_ => [(42, s_.1), (44, s_.2)]) (fun s_ w' => (w'.cell? ⟨gb416, 0, none⟩ = some (.int .i64 a0_0) ∧ w'.cell? ⟨gb416, 1, none⟩ = some (.slice A0_1 l0_1.length c0_1)) ∧ (Kd.R (Kd.int .i64) 3 w' wr.heap.size (fun k_ => some k_ ≠ (s_.2 : Value).ownBlock) s_.1 t423) ∧ (Kd.R (Kd.int .i64) 3 w' wr.heap.size (fun k_ => some k_ ≠ (s_.1 : Value).ownBlock) s_.2 y426) ∧ (w'.heap[gb416]? = some (.cells #[.int .i64 a0_0, .slice A0_1 l0_1.length c0_1] 30 (0, 0))) ∧ (Below wr.heap.size wr w')) ?_ ?_
           rotate_left
           ·intro hCont
            refine two_ (i := 2) (j := 4) (Ni := some 42) (Nj := some 44) (G.fl 10 207) (G.fl 10 219) rfl rfl rfl rfl (two_of HT_.out (by kernel_rfl)) (by decide) (by decide) (fun K hK => ?_) (fun K hK => ?_)
            ·skip
             refine G.gs Try.func86 #[.slice (some ad417) l1.length c1] ?_
             with_reducible refine (slices_Clone_int_int.calls _ _ l1 t423 _ ?side1 ?side2 A24.out).mono ?_
             (case side1 => exact G.cC (Kd.C_below HR1.out HB.out))
             (case side2 => exact HC1.out)
             rintro e w28 ⟨v424, rfl, ho0, hb⟩
             refine ⟨_, rfl, ?_⟩
             have n0 := G.m (Kd.R_lower ho0 (below_size (G.cB HB.out)))
             have n1 := G.bb BK416 hb
             have n2 := G.bs HB hb
             clear BK416 HB
             revert n0 n1 n2
             intro HO425 BK416 HB
             (try clear hb ho0)
             refine hK.out _ _ ⟨G.z BK416 0, G.z BK416 1⟩ (fun hHeld => ?_)
             clear hK K
             refine G.no 42 ?_
             refine G.on 4 44 223 (fun K hK => ?_)
             refine Kd.R_lit_step (Kd.int .i64) _ 3 ?hg (N := 44) ?hd (xs := ([x27_1] : List Int)) (inner := [.int .i64 x27_1]) (ok := fun _ => True) (okp := fun _ => True) ?hr ?hp (fun _ hk => hk) trivial (Below.refl _ _) (Nat.le_refl _) (by simp) ?_; (case hd => rfl); (case hg => rfl); (case hr => first | (go_simp; done) | (go_simp; rfl)); (case hp => exact (Reps.one (show Kd.M (Kd.int .i64) _ _ _ x27_1 [.int .i64 x27_1] from rfl) (Reps.none _ _)))
             intro v427 w29 ho30 hb hg_ hnew_
             clear hg_ hnew_
             (first | rw [← Ny426.out] at ho30 | (simp only [Int.reduceToNat] at ho30; rw [← Ny426.out] at ho30))
             have n0 := G.re HO425 ho30 hb
             have n1 := G.m (Kd.R_lower (Kd.R_new' ho30 (Kd.R_lt (G.cR HO425.out))) (below_size (G.cB HB.out)))
             have n2 := G.bb BK416 hb
             have n3 := G.bs HB hb
             clear HO425 BK416 HB
             revert n0 n1 n2 n3
             intro HO425 HO428 BK416 HB
             clear hb ho30
             refine hK.out _ _ ⟨G.z BK416 0, G.z BK416 1⟩ (fun hHeld => ?_)
             clear hK K
             refine G.no 44 ?_
             exact norm_ (by simp only [putAll, Act.put, List.setIfInBounds_toArray, List.set_cons_zero, List.set_cons_succ]) (hCont (v424, v427) _ ⟨hHeld, ((by (with_reducible repeat (first | apply Kd.R_alloc | apply Kd.R_drewN | apply Kd.R_drew)); exact Kd.R_mono HO425.out (fun _ hk => hk.2))), ((by (with_reducible repeat (first | apply Kd.R_alloc | apply Kd.R_drewN | apply Kd.R_drew)); exact Kd.R_mono HO428.out (fun _ hk => hk.2))), (G.cb BK416.out), (G.cB HB.out)⟩)
            ·skip
             refine Kd.R_lit_step (Kd.int .i64) _ 3 ?hg (N := 44) ?hd (xs := ([x27_1] : List Int)) (inner := [.int .i64 x27_1]) (ok := fun _ => True) (okp := fun _ => True) ?hr ?hp (fun _ hk => hk) trivial (Below.refl _ _) (Nat.le_refl _) (by simp) ?_; (case hd => rfl); (case hg => rfl); (case hr => first | (go_simp; done) | (go_simp; rfl)); (case hp => exact (Reps.one (show Kd.M (Kd.int .i64) _ _ _ x27_1 [.int .i64 x27_1] from rfl) (Reps.none _ _)))
             intro v427 w28 ho29 hb hg_ hnew_
             clear hg_ hnew_
             (first | rw [← Ny426.out] at ho29 | (simp only [Int.reduceToNat] at ho29; rw [← Ny426.out] at ho29))
             have n0 := G.m (Kd.R_lower ho29 (below_size (G.cB HB.out)))
             have n1 := G.bb BK416 hb
             have n2 := G.bs HB hb
             clear BK416 HB
             revert n0 n1 n2
             intro HO428 BK416 HB
             clear hb ho29
             refine hK.out _ _ ⟨G.z BK416 0, G.z BK416 1⟩ (fun hHeld => ?_)
             clear hK K
             refine G.no 44 ?_
             refine G.on 2 42 223 (fun K hK => ?_)
             refine G.gs Try.func86 #[.slice (some ad417) l1.length c1] ?_
             with_reducible refine (slices_Clone_int_int.calls _ _ l1 t423 _ ?side1 ?side2 A24.out).mono ?_
             (case side1 => exact G.cC (Kd.C_below HR1.out HB.out))
             (case side2 => exact HC1.out)
             rintro e w30 ⟨v424, rfl, ho0, hb⟩
             refine ⟨_, rfl, ?_⟩
             have n0 := G.re HO428 ho0 hb
             have n1 := G.m (Kd.R_lower (Kd.R_new' ho0 (Kd.R_lt (G.cR HO428.out))) (below_size (G.cB HB.out)))
             have n2 := G.bb BK416 hb
             have n3 := G.bs HB hb
             clear HO428 BK416 HB
             revert n0 n1 n2 n3
             intro HO428 HO425 BK416 HB
             (try clear hb ho0)
             refine hK.out _ _ ⟨G.z BK416 0, G.z BK416 1⟩ (fun hHeld => ?_)
             clear hK K
             refine G.no 42 ?_
             exact norm_ (by simp only [putAll, Act.put, List.setIfInBounds_toArray, List.set_cons_zero, List.set_cons_succ]) (hCont (v424, v427) _ ⟨hHeld, ((by (with_reducible repeat (first | apply Kd.R_alloc | apply Kd.R_drewN | apply Kd.R_drew)); exact Kd.R_mono HO425.out (fun _ hk => hk.2))), ((by (with_reducible repeat (first | apply Kd.R_alloc | apply Kd.R_drewN | apply Kd.R_drew)); exact Kd.R_mono HO428.out (fun _ hk => hk.2))), (G.cb BK416.out), (G.cB HB.out)⟩)
           rintro ⟨v424, v427⟩ w31 ⟨hS_, h0_, h1_, h2_, h3_⟩
           have n0 : Aside0 (Kd.R (Kd.int .i64) 3 w31 wr.heap.size (fun k_ => some k_ ≠ (v427 : Value).ownBlock) v424 t423) := ⟨h0_⟩
           have n1 : Aside0 (Kd.R (Kd.int .i64) 3 w31 wr.heap.size (fun k_ => some k_ ≠ (v424 : Value).ownBlock) v427 y426) := ⟨h1_⟩
           have n2 : Aside0 (w31.heap[gb416]? = some (.cells #[.int .i64 a0_0, .slice A0_1 l0_1.length c0_1] 30 (0, 0))) := ⟨h2_⟩
           have n3 : Aside0 (Below wr.heap.size wr w31) := ⟨h3_⟩
           clear BK416 HB
           clear h0_ h1_ h2_ h3_
           revert n0 n1 n2 n3
           intro HO425 HO428 BK416 HB
           have hHeld : w31.cell? ⟨gb416, 0, none⟩ = some (.int .i64 a0_0) ∧ w31.cell? ⟨gb416, 1, none⟩ = some (.slice A0_1 l0_1.length c0_1) := hS_
           obtain ⟨Ao33, co33, eo33⟩ := Kd.R_slice HO428.out
           (first | subst eo33 | (injection eo33 with f1_ f2_ f3_; have f4_ := f1_.symm; have f5_ := f3_.symm; clear f1_ f2_ f3_; subst f4_; subst f5_))
           refine norm_ (a' := ?_) ?_ ?_
           rotate_left
           ·simp only [putAll, Act.put, List.setIfInBounds_toArray, List.set_cons_zero, List.set_cons_succ]
            rfl
           refine G.on 5 45 255 (fun K hK => ?_)
           refine Kd.R_append_rows_step (Kd.int .i64) (w0 := wr) wr.heap.size (by rfl) (.tmp 42) (.tmp 44) 25 3 (.int .i64 0) 8 rfl Try.underlying25 info3 rfl (by decide) (by omega) v424 t423 y426 _ _ _ (fun k_ => some k_ ≠ (.slice Ao33 y426.length co33 : Value).ownBlock) (fun _ => False) rfl rfl ?aO ?aR (fun _ _ h => h) (fun _ h => h.elim) ?aF ?aB ?aS ?aL ?_
           (case aR => exact G.cC (Kd.R_reads' HO428.out).2.2)
           (case aB => exact (G.cB HB.out))
           (case aF => exact (fun k_ hk => Kd.fresh' (Kd.R_lt (G.cR HO428.out)) k_ hk))
           (case aO => exact (G.cR HO425.out))
           (case aS => exact (below_size (G.cB HB.out)))
           (case aL => have := LMc25.out; omega)
           intro v430 w32 ho hb hg hat
           rw [← Ny429.out] at ho
           have n0 := G.bg BK416 hg (Kd.R_ne HO425.out BK416.out (by decide))
           have n1 := G.m (Kd.R_after (ok := (fun _ => True)) (by (with_reducible repeat (first | apply Kd.R_alloc | apply Kd.R_drewN | apply Kd.R_drew)); exact Kd.R_mono HO428.out (fun _ hk => ⟨trivial, hk⟩)) hg hat)
           have n2 := G.m (hb)
           have n3 := G.m (ho)
           clear BK416 HO428 HB HO425
           revert n0 n1 n2 n3
           intro BK416 HO428 HB HO431
           clear ho hb hg hat
           obtain ⟨Ao34, co34, eo34⟩ := Kd.R_slice HO431.out
           (first | subst eo34 | (injection eo34 with f1_ f2_ f3_; have f4_ := f1_.symm; have f5_ := f3_.symm; clear f1_ f2_ f3_; subst f4_; subst f5_))
           refine hK.out _ _ ⟨G.z BK416 0, G.z BK416 1⟩ (fun hHeld => ?_)
           clear hK K
           refine G.no 45 ?_
           refine G.on 8 48 511 (fun K hK => ?_)
           have HLc := G.m (LX.below HL.out (G.cB HB.out))
           refine G.gs Try.func75 #[.agg #[.int .i64 a0_0, .slice A0_1 l0_1.length c0_1], .slice Ao34 y429.length co34, .int .i64 a2, vq] ?_
           with_reducible refine (ih kj14 (by have := HK1.out; have := HJ14.out; omega) a0_0 _ _ l0_1 _ _ y429 a2 vq x3_1 t432 w0 _ ?side1 ?side2 ?side3 ?side4 A26.out).mono ?_
           (case side1 => exact HRA.out)
           (case side2 => exact HC0_1.out)
           (case side3 => exact HLc.out.b)
           (case side4 => exact ⟨Kd.R_mono (Kd.R_lower (G.cR HO431.out) HL.out.b.size) (fun _ _ => trivial), HLc.out.row⟩)
           rintro e w35 ⟨v1_, rfl, hS_, hb0_, hg_, hat_⟩
           refine ⟨_, rfl, ?_⟩
           have n0 := G.m (blk_grown (g := gb416) (o := .cells #[.int .i64 a0_0, .slice A0_1 l0_1.length c0_1] 30 (0, 0)) (G.cb BK416.out) hg_ (Kd.S_ne HLc.out.row (G.cb BK416.out) (by decide)))
           have n1 := G.m (LX.step HLc.out hS_ hb0_ hg_ hat_)
           have n2 := G.m (Below.refl w35.heap.size w35)
           clear HO428 HO431 BK416 HB HL HLc hS_ hb0_ hg_ hat_ HR0_1 HR1
           revert n0 n1 n2
           intro BK416 HL HB
           refine hK.out _ _ ⟨G.z BK416 0, G.z BK416 1⟩ (fun hHeld => ?_)
           clear hK K
           refine G.no 48 ?_
           refine G.pu 9 3 1023 ?_
           refine done_ (done_of HT_.out (by kernel_rfl)) ?_
           try go_wp2
           go_roundg kj14
           case measure => have := HK1.out; have := HJ14.out; omega
           case rel => exact ⟨_, t432, (wrap64 (x27_1 + 1)), rfl, (by first | rfl | (simp; done) | (simp [*]; done)), H', ⟨by have := HK1.out; have := HJ14.out; omega⟩, ⟨G.cb BK416.out⟩, ⟨LX.below HL.out (G.cB HB.out)⟩⟩
          ·rw [if_neg c25] at H
           exact absurd H (by simp)
         ·replace c23 := Bool.eq_false_iff.mpr c23
          subst c23
          have H1 : (impl_Net_ways.l0 kj14 l1 a2 x3_1 (rd l1 (ji5)) a0_0 (wrap64 (x27_1 + 1)) a0_0 l0_1) = some r := by rw [if_neg (show ¬ (false = true) by decide)] at H; exact H
          clear H
          have H := H1
          clear H1
          have H' := G.m H
          clear H
          go_wp2
          go_roundg kj14
          case measure => have := HK1.out; have := HJ14.out; omega
          case rel => exact ⟨_, x3_1, (wrap64 (x27_1 + 1)), rfl, (by first | rfl | (simp; done) | (simp [*]; done)), H', ⟨by have := HK1.out; have := HJ14.out; omega⟩, ⟨G.cb BK416.out⟩, ⟨LX.below HL.out (G.cB HB.out)⟩⟩
      ·rw [if_neg c14] at H
       have c14b0 : decide (x27_1 < a0_0) = false := decide_eq_false c14
       clear c14
       obtain rfl := Option.some.inj H
       go_wp2
       go_ret
       exact ⟨_, by first | rfl | (simp [errW_none, errW_some] <;> rfl), (LX.below HL.out (G.cB HB.out)).fin⟩
  ·rw [if_neg c7] at H
   exact absurd H (by simp)
 ·rw [if_neg c6] at H
  exact absurd H (by simp)
end Go.Proofs.Ytddadihobjinhaa.P
