-- Printed by a program of this session (mp.py, over the kit's print). Not trusted: Lean checks it.
import Derived.Test.YtddadihobjinhaaF0
import Derived.Test.YtddadihobjinhaaF3
import Derived.Test.YtddadihobjinhaaF6
namespace Go.Proofs.Ytddadihobjinhaa.P
open Go.RowKit Go.Proofs.YtddadihobjinhaaW.PrintWords Go.Proofs.YtddadihobjinhaaW.PrintLast Go.Proofs.YtddadihobjinhaaW.PrintMore
attribute [local go_sem] max2_int min2_int max_two min_two max_three min_three max_four min_four   -- for this text's walks alone
set_option linter.unusedVariables false
set_option linter.unusedSimpArgs false

/-! ### impl_NetHas: function 39 -/
def impl_NetHas.f (k : Nat) (ac : Int) (aa : List (S53)) (a1 : Int) (a2 : Int) : Option (Bool) := (impl_NetOk.f k ac aa).bind fun ag => (if ag = true then ((impl_Net_has.f k ac aa a1 a2).bind fun ae => (some ae)) else (some false))
theorem impl_NetHas.mono : ∀ a0 a1 a2 a3 k, LeO (impl_NetHas.f k a0 a1 a2 a3) (impl_NetHas.f (k + 1) a0 a1 a2 a3) := by
 intro a0 a1 a2 a3 k; unfold impl_NetHas.f
 repeat' first | (with_reducible first | exact impl_NetOk.mono _ _ _ | exact impl_Net_has.mono _ _ _ _ _ | exact LeO.refl _ | exact LeO.none _ | refine LeO.ite ?_ ?_ | refine LeO.bind ?_ (fun _ => ?_)) | exact impl_NetOk.mono _ _ _ | exact impl_Net_has.mono _ _ _ _ _ | exact LeO.none _ | refine LeO.ite ?_ ?_ | refine LeO.bind ?_ (fun _ => ?_)
set_option maxHeartbeats 8000000 in
set_option maxRecDepth 100000 in
theorem impl_NetHas.calls (k : Nat) (ac : Int) (ah : Option Addr) (ai : Nat) (aa : List (S53)) (a1 : Int) (a2 : Int) (r : Bool) (w : World) (al : Kd.C k53 w ah aa.length aa) (am : aa.length ≤ ai) (h : impl_NetHas.f k ac aa a1 a2 = some r) :
  Calls Try.prog 39 #[.agg #[.int .i64 ac, .slice ah aa.length ai], .int .i64 a1, .int .i64 a2] w fun e w' => e = .returned (.bool r) ∧ Below w.heap.size w w' := by
 have aG := Try.underlying30; have aj := G.m al; have ak := G.m am; clear al am; have HB := G.m (Below.refl w.heap.size w); have H : ((impl_NetOk.f k ac aa).bind fun ag => (if ag = true then ((impl_Net_has.f k ac aa a1 a2).bind fun ae => (some ae)) else (some false))) = some r := h; clear h; obtain ⟨ag, A4, H⟩ := G.bi H; replace H : (if ag = true then ((impl_Net_has.f k ac aa a1 a2).bind fun ae => (some ae)) else (some false)) = some r := H
 by_cases c5 : ag = true
 ·subst c5; have H1 : ((impl_Net_has.f k ac aa a1 a2).bind fun ae => (some ae)) = some r := by rw [if_pos rfl] at H; exact H
  clear H; have H := H1; clear H1; obtain ⟨ae, A6, H⟩ := G.bi H; replace H : (some ae) = some r := H; obtain rfl := Option.some.inj H
  go_enter Try.func39, Try.ntmps39
  go_wp2_with (first | ((with_reducible refine G.h 3 rfl ?_); refine G.be 3 #[.int .i64 ac, .slice ah aa.length ai] 30 ?_; intro af hg w7 hbox hb; have n0 := G.bs HB hb; have n1 := G.m (hbox); have n2 := G.m ((by rw [hg]; exact (below_size (G.cB HB.out)) : w.heap.size ≤ af)); have n3 := G.m ((by rw [hg]; exact (below_size (G.cB HB.out)) : w.heap.size ≤ af)); clear HB; revert n0 n1 n2 n3; intro HB ab ao ap; clear hb hbox hg; have ⟨aB, aC, aD, aE⟩ := G.d2 (w := w7) ab) | ((with_reducible refine G.f 45 rfl ?_); refine G.gL 8 Try.func45 #[.agg #[.int .i64 ac, .slice ah aa.length ai]] ?_; (with_reducible refine (impl_NetOk.calls k ac _ _ aa true _ ?side1 ?side2 A4.out).mono ?_); (case side1 => exact G.cC (Kd.C_below aj.out HB.out)); (case side2 => exact ak.out); rintro e w9 ⟨rfl, hb⟩; refine ⟨_, rfl, ?_⟩; have n0 := G.bb ab hb; have n1 := G.bs HB hb; clear ab HB; revert n0 n1; intro ab HB; (try clear hb); have ⟨aq, au, av, aw⟩ := G.d2 (w := w9) ab) | (go_at_call 63; (with_reducible refine (impl_Net_has.calls k ac _ _ aa a1 a2 ae _ ?side1 ?side2 A6.out).mono ?_); (case side1 => exact G.cC (Kd.C_below aj.out HB.out)); (case side2 => exact ak.out); rintro e aH ⟨rfl, hb⟩; have n0 := G.bb ab hb; have n1 := G.bs HB hb; clear ab HB; revert n0 n1; intro ab HB; (try clear hb)))
  go_ret
  exact ⟨by first | rfl | (simp [errW_none, errW_some] <;> rfl) | (simp [*, errW_none, errW_some] <;> rfl), G.cB HB.out⟩
 ·replace c5 := Bool.eq_false_iff.mpr c5; subst c5; have H1 : (some false) = some r := by rw [if_neg (show ¬ (false = true) by decide)] at H; exact H
  clear H; have H := H1; clear H1; obtain rfl := Option.some.inj H
  go_enter Try.func39, Try.ntmps39
  go_wp2_with (first | ((with_reducible refine G.h 3 rfl ?_); refine G.be 3 #[.int .i64 ac, .slice ah aa.length ai] 30 ?_; intro af hg aF hbox hb; have n0 := G.bs HB hb; have n1 := G.m (hbox); have n2 := G.m ((by rw [hg]; exact (below_size (G.cB HB.out)) : w.heap.size ≤ af)); have n3 := G.m ((by rw [hg]; exact (below_size (G.cB HB.out)) : w.heap.size ≤ af)); clear HB; revert n0 n1 n2 n3; intro HB ab ao ap; clear hb hbox hg; have ⟨ax, ay, az, aA⟩ := G.d2 (w := aF) ab) | ((with_reducible refine G.f 45 rfl ?_); refine G.gL 8 Try.func45 #[.agg #[.int .i64 ac, .slice ah aa.length ai]] ?_; (with_reducible refine (impl_NetOk.calls k ac _ _ aa false _ ?side1 ?side2 A4.out).mono ?_); (case side1 => exact G.cC (Kd.C_below aj.out HB.out)); (case side2 => exact ak.out); rintro e aI ⟨rfl, hb⟩; refine ⟨_, rfl, ?_⟩; have n0 := G.bb ab hb; have n1 := G.bs HB hb; clear ab HB; revert n0 n1; intro ab HB; (try clear hb)))
  go_ret
  exact ⟨by first | rfl | (simp [errW_none, errW_some] <;> rfl) | (simp [*, errW_none, errW_some] <;> rfl), G.cB HB.out⟩

end Go.Proofs.Ytddadihobjinhaa.P
