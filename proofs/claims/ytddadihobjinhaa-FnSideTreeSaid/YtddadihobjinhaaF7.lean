-- Printed by a program of this session (mp.py, over the kit's print). Not trusted: Lean checks it.
import Derived.Test.YtddadihobjinhaaF0
import Derived.Lib.SliceRun
namespace Go.Proofs.Ytddadihobjinhaa.P
open Go.RowKit Go.Proofs.YtddadihobjinhaaW.PrintWords Go.Proofs.YtddadihobjinhaaW.PrintLast Go.Proofs.YtddadihobjinhaaW.PrintMore
attribute [local go_sem] max2_int min2_int max_two min_two max_three min_three max_four min_four   -- for this text's walks alone
set_option linter.unusedVariables false
set_option linter.unusedSimpArgs false

/-! ### slices_Clone_int_int: function 86 -/
-- LIBTEXT Derived.Lib.SliceRun
def slices_Clone_int_int.f (l0 : List Int) : Option (List Int) := (some (([] : List Int) : List Int)).bind fun aa => (if aa.length + l0.length < 17592186044416 then (some (aa ++ l0)) else (none))
set_option maxHeartbeats 8000000 in
set_option maxRecDepth 100000 in
theorem slices_Clone_int_int.calls (A0 : Option Addr) (c0 : Nat) (l0 : List Int) (r : List Int) (w : World) (al : Kd.C (Kd.int .i64) w A0 l0.length l0) (am : l0.length ≤ c0) (h : slices_Clone_int_int.f l0 = some r) :
  Calls Try.prog 86 #[.slice A0 l0.length c0] w fun e w' => ∃ ao : Value, e = .returned (ao) ∧ Kd.R (Kd.int .i64) 3 w' w.heap.size (fun _ => True) ao r ∧ Below w.heap.size w w' := by
 have ap := G.m al; have aw := G.m am; clear al am; have HB := G.m (Below.refl w.heap.size w); have H : ((some (([] : List Int) : List Int)).bind fun aa => (if aa.length + l0.length < 17592186044416 then (some (aa ++ l0)) else (none))) = some r := h; clear h; obtain ⟨aa, ab⟩ : ∃ y_ : List Int, y_ = (([] : List Int)) := ⟨_, rfl⟩; replace H : (if aa.length + l0.length < 17592186044416 then (some (aa ++ l0)) else (none)) = some r := by first | (rw [ab]; with_reducible exact H) | (have ae := (Option.bind_some _ _).symm.trans H; rw [ab]; with_reducible exact ae) | (have ae := (Option.bind_some _ _).symm.trans H; with_reducible exact ae) | with_reducible exact H | (rw [ab]; exact H) | exact H
 have af := G.m ab; clear ab
 by_cases c2 : aa.length + l0.length < 17592186044416
 ·rw [if_pos c2] at H; have aq := G.m c2; clear c2; obtain ⟨aj, ac⟩ : ∃ y_ : List Int, y_ = (aa ++ l0) := ⟨_, rfl⟩; replace H : (some aj) = some r := by first | (rw [ac]; with_reducible exact H) | (have ae := (Option.bind_some _ _).symm.trans H; rw [ac]; with_reducible exact ae) | (have ae := (Option.bind_some _ _).symm.trans H; with_reducible exact ae) | with_reducible exact H | (rw [ac]; exact H) | exact H
  have ah := G.m ac; clear ac; obtain rfl := Option.some.inj H; have ax : ∀ (w : World) (a : Option Addr) (n c n' c' : Nat), (binOp .eql 25 (.slice a n c) (.slice none n' c')).run Try.prog w = .ok (.bool a.isNone) w := fun w a n c n' c' => Go.Lib.run_eql_slice_nil w _ _ a n c n' c' Try.underlying25
  rcases A0 with _ | ay
  ·have e0 : l0 = [] := by
    have h_ := ap.out
    rcases l0 with _ | ⟨q, r⟩
    ·rfl
    ·obtain ⟨ad, h, _⟩ := h_.2.2 (by simp); exact absurd h (by simp)
   subst e0; have ey : aj = [] := by rw [ah.out, af.out]; rfl
   subst ey
   go_enter Try.func86, Try.ntmps86
   go_wp2
   go_ret
   exact ⟨_, rfl, Kd.R_nil _ _ _ _ _, G.cB HB.out⟩
  go_enter Try.func86, Try.ntmps86
  go_wp2_with (first | ((with_reducible refine G.h 5 rfl ?_); refine Kd.R_lit (Kd.int .i64) _ 3 ?hg (N := 5) ?hd (xs := ([] : List Int)) (inner := []) (ok := fun _ => True) (okp := fun _ => True) ?hr ?hp (fun _ hk => hk) trivial (Below.refl _ _) (Nat.le_refl _) (by simp) ?_; (case hd => rfl); (case hg => rfl); (case hr => first | (go_simp; done) | (go_simp; rfl)); (case hp => exact (Reps.none _ _)); intro au w3 ag hb hg_ hnew_; clear hg_ hnew_; (first | rw [← af.out] at ag | (simp only [Int.reduceToNat] at ag; rw [← af.out] at ag)); have n0 := G.m (Kd.R_lower ag (below_size (G.cB HB.out))); have n1 := G.bs HB hb; clear HB; revert n0 n1; intro ai HB; clear hb ag) | ((with_reducible refine gate_builtin (b := .append) (xs := #[.tmp 5, .tmp 6]) rfl ?_); at_builtin; refine Kd.R_append_rows (Kd.int .i64) (w0 := w) w.heap.size rfl (.tmp 5) (.tmp 6) 25 3 (.int .i64 0) 8 rfl Try.underlying25 info3 rfl (by decide) (by omega) au aa l0 _ _ _ (fun _ => True) (fun _ => False) rfl rfl ?aO ?aR (fun _ _ h => h) (fun _ h => h.elim) ?aF ?aB ?aS ?aL ?_; (case aR => exact G.cC (Kd.C_below ap.out HB.out)); (case aB => exact (G.cB HB.out)); (case aF => exact (fun _ _ => trivial)); (case aO => exact (G.cR ai.out)); (case aS => exact (below_size (G.cB HB.out))); (case aL => have := aq.out; omega); intro av w5 ho hb hg hat; rw [← ah.out] at ho; have n0 := G.m (hb); have n1 := G.m (ho); clear HB ai; revert n0 n1; intro HB ak; clear ho hb hg hat))
  go_ret
  exact ⟨_, by first | rfl | (simp [errW_none, errW_some] <;> rfl) | (simp [*, errW_none, errW_some] <;> rfl), G.cR ak.out, G.cB HB.out⟩
 ·rw [if_neg c2] at H; exact absurd H (by simp)


end Go.Proofs.Ytddadihobjinhaa.P
