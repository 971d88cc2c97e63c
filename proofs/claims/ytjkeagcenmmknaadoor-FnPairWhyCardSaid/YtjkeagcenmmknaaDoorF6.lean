-- Printed by a program of this session (mp.py, over the kit's print). Not trusted: Lean checks it.
import Derived.Test.YtjkeagcenmmknaaDoorF0
import Derived.Test.YtjkeagcenmmknaaDoorF3
namespace Go.Proofs.YtjkeagcenmmknaaDoor.P
open Go.RowKit Go.Proofs.YtjkeagcenmmknaaDoorW.PrintWords Go.Proofs.YtjkeagcenmmknaaDoorW.PrintLast Go.Proofs.YtjkeagcenmmknaaDoorW.PrintMore
attribute [local go_sem] max2_int min2_int max_two min_two max_three min_three max_four min_four   -- for this text's walks alone
set_option linter.unusedVariables false
set_option linter.unusedSimpArgs false

/-! ### impl_PairSize: function 17 -/
def impl_PairSize.f (k : Nat) (ac : Int) (aa : List (S51)) : Option (Int) := (impl_NetOk.f k ac aa).bind fun ai => (if ai = true then ((impl_size.f aa).bind fun ae => (some ae)) else (some (-1)))
theorem impl_PairSize.mono : ∀ a0 a1 k, LeO (impl_PairSize.f k a0 a1) (impl_PairSize.f (k + 1) a0 a1) := by
 intro a0 a1 k; unfold impl_PairSize.f
 repeat' first | (with_reducible first | exact impl_NetOk.mono _ _ _ | exact LeO.refl _ | exact LeO.none _ | refine LeO.ite ?_ ?_ | refine LeO.bind ?_ (fun _ => ?_)) | exact impl_NetOk.mono _ _ _ | exact LeO.none _ | refine LeO.ite ?_ ?_ | refine LeO.bind ?_ (fun _ => ?_)
set_option maxHeartbeats 8000000 in
set_option maxRecDepth 100000 in
theorem impl_PairSize.calls (k : Nat) (ac : Int) (af : Option Addr) (ag : Nat) (aa : List (S51)) (r : Int) (w : World) (al : Kd.C k51 w af aa.length aa) (am : aa.length ≤ ag) (h : impl_PairSize.f k ac aa = some r) (hT : TabAt 1 Lib.deBruijn64tab w) :
  Calls Tryd.prog 17 #[.agg #[.int .i64 ac, .slice af aa.length ag]] w fun e w' => e = .returned (.int .i64 r) ∧ Below w.heap.size w w' := by
 have HTb := G.m hT; clear hT; have aG := Tryd.underlying29; have aj := G.m al; have ak := G.m am; clear al am; have HB := G.m (Below.refl w.heap.size w); have H : ((impl_NetOk.f k ac aa).bind fun ai => (if ai = true then ((impl_size.f aa).bind fun ae => (some ae)) else (some (-1)))) = some r := h; clear h; obtain ⟨ai, A2, H⟩ := G.bi H; replace H : (if ai = true then ((impl_size.f aa).bind fun ae => (some ae)) else (some (-1))) = some r := H
 by_cases c3 : ai = true
 ·subst c3; have H1 : ((impl_size.f aa).bind fun ae => (some ae)) = some r := by rw [if_pos rfl] at H; exact H
  clear H; have H := H1; clear H1; obtain ⟨ae, A4, H⟩ := G.bi H; replace H : (some ae) = some r := H; obtain rfl := Option.some.inj H
  go_enter Tryd.func17, Tryd.ntmps17
  go_wp2_with (first | ((with_reducible refine G.h 1 rfl ?_); refine G.be 1 #[.int .i64 ac, .slice af aa.length ag] 29 ?_; intro ah hg w5 hbox hb; have n0 := G.bs HB hb; have n1 := G.m (hbox); have n2 := G.m ((by rw [hg]; exact (below_size (G.cB HB.out)) : w.heap.size ≤ ah)); have n3 := G.m ((by rw [hg]; exact (below_size (G.cB HB.out)) : w.heap.size ≤ ah)); clear HB; revert n0 n1 n2 n3; intro HB ab ao ap; clear hb hbox hg; have ⟨ax, ay, az, aA⟩ := G.d2 (w := w5) ab) | ((with_reducible refine G.f 48 rfl ?_); refine G.gL 4 Tryd.func48 #[.agg #[.int .i64 ac, .slice af aa.length ag]] ?_; (with_reducible refine (impl_NetOk.calls k ac _ _ aa true _ ?side1 ?side2 A2.out).mono ?_); (case side1 => exact G.cC (Kd.C_below aj.out HB.out)); (case side2 => exact ak.out); rintro e w7 ⟨rfl, hb⟩; refine ⟨_, rfl, ?_⟩; have n0 := G.bb ab hb; have n1 := G.bs HB hb; clear ab HB; revert n0 n1; intro ab HB; (try clear hb); have ⟨aB, aC, aD, aE⟩ := G.d2 (w := w7) ab) | ((with_reducible refine G.f 49 rfl ?_); refine G.gL 8 Tryd.func49 #[.slice af aa.length ag] ?_; (with_reducible refine (impl_size.calls _ _ aa ae _ ?side1 ?side2 A4.out ?sideT).mono ?_); (case sideT => exact lay HTb.out (G.cB HB.out)); (case side1 => exact G.cC (Kd.C_below aj.out HB.out)); (case side2 => exact ak.out); rintro e w9 ⟨rfl, hb⟩; refine ⟨_, rfl, ?_⟩; have n0 := G.bb ab hb; have n1 := G.bs HB hb; clear ab HB; revert n0 n1; intro ab HB; (try clear hb)))
  go_ret
  exact ⟨by first | rfl | (simp [errW_none, errW_some] <;> rfl) | (simp [*, errW_none, errW_some] <;> rfl), G.cB HB.out⟩
 ·replace c3 := Bool.eq_false_iff.mpr c3; subst c3; have H1 : (some (-1)) = some r := by rw [if_neg (show ¬ (false = true) by decide)] at H; exact H
  clear H; have H := H1; clear H1; obtain rfl := Option.some.inj H
  go_enter Tryd.func17, Tryd.ntmps17
  go_wp2_with (first | ((with_reducible refine G.h 1 rfl ?_); refine G.be 1 #[.int .i64 ac, .slice af aa.length ag] 29 ?_; intro ah hg aF hbox hb; have n0 := G.bs HB hb; have n1 := G.m (hbox); have n2 := G.m ((by rw [hg]; exact (below_size (G.cB HB.out)) : w.heap.size ≤ ah)); have n3 := G.m ((by rw [hg]; exact (below_size (G.cB HB.out)) : w.heap.size ≤ ah)); clear HB; revert n0 n1 n2 n3; intro HB ab ao ap; clear hb hbox hg; have ⟨aq, au, av, aw⟩ := G.d2 (w := aF) ab) | ((with_reducible refine G.f 48 rfl ?_); refine G.gL 4 Tryd.func48 #[.agg #[.int .i64 ac, .slice af aa.length ag]] ?_; (with_reducible refine (impl_NetOk.calls k ac _ _ aa false _ ?side1 ?side2 A2.out).mono ?_); (case side1 => exact G.cC (Kd.C_below aj.out HB.out)); (case side2 => exact ak.out); rintro e aH ⟨rfl, hb⟩; refine ⟨_, rfl, ?_⟩; have n0 := G.bb ab hb; have n1 := G.bs HB hb; clear ab HB; revert n0 n1; intro ab HB; (try clear hb)))
  go_ret
  exact ⟨by first | rfl | (simp [errW_none, errW_some] <;> rfl) | (simp [*, errW_none, errW_some] <;> rfl), G.cB HB.out⟩

end Go.Proofs.YtjkeagcenmmknaaDoor.P
