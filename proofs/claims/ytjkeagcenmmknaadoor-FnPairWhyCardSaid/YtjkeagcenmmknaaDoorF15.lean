-- Printed by a program of this session (mp.py, over the kit's print). Not trusted: Lean checks it.
import Derived.Test.YtjkeagcenmmknaaDoorF0
import Derived.Test.YtjkeagcenmmknaaDoorF13
namespace Go.Proofs.YtjkeagcenmmknaaDoor.P
open Go.RowKit Go.Proofs.YtjkeagcenmmknaaDoorW.PrintWords Go.Proofs.YtjkeagcenmmknaaDoorW.PrintLast Go.Proofs.YtjkeagcenmmknaaDoorW.PrintMore
attribute [local go_sem] max2_int min2_int max_two min_two max_three min_three max_four min_four   -- for this text's walks alone
set_option linter.unusedVariables false
set_option linter.unusedSimpArgs false

/-! ### impl_tie: function 69 -/
def impl_tie.f (a0 : Int) (a1 : Int) : Option (Int × Int) := some (mn a0 a1, mx a0 a1)
set_option maxHeartbeats 8000000 in
set_option maxRecDepth 100000 in
theorem impl_tie.calls (a0 : Int) (a1 : Int) (r1 : Int) (r2 : Int) (w : World) (h : impl_tie.f a0 a1 = some (r1, r2)) :
  Calls Tryd.prog 69 #[.int .i64 a0, .int .i64 a1] w fun e w' => e = .returned (.agg #[.int .i64 r1, .int .i64 r2]) ∧ Below w.heap.size w w' := by
 have aJ := Tryd.underlying51; have HB := G.m (Below.refl w.heap.size w); have H : (some (mn a0 a1, mx a0 a1)) = some (r1, r2) := h; clear h; obtain ⟨ap, aj⟩ : ∃ j_ : Int, (mn a0 a1) = j_ := ⟨_, rfl⟩; replace H : (some (ap, mx a0 a1)) = some (r1, r2) := by first | (rw [aj] at H; exact H) | (simp only [aj] at H ⊢; exact H)
 have aD : (if a1 < a0 then a1 else a0) = ap := aj; obtain ⟨aw, ak⟩ : ∃ j_ : Int, (mx a0 a1) = j_ := ⟨_, rfl⟩; replace H : (some (ap, aw)) = some (r1, r2) := by first | (rw [ak] at H; exact H) | (simp only [ak] at H ⊢; exact H)
 have aE : (if a0 < a1 then a1 else a0) = aw := ak; simp only [Option.some.injEq, Prod.mk.injEq] at H; obtain ⟨rfl, rfl⟩ := H
 go_enter Tryd.func69, Tryd.ntmps69
 go_wp2_with (first | ((with_reducible refine G.h 4 rfl ?_); refine G.be 4 #[.int .i64 0, .int .i64 0] 51 ?_; intro al hg w5 hbox hb; have n0 := G.bs HB hb; have n1 := G.m (hbox); have n2 := G.m ((by rw [hg]; exact (below_size (G.cB HB.out)) : w.heap.size ≤ al)); have n3 := G.m ((by rw [hg]; exact (below_size (G.cB HB.out)) : w.heap.size ≤ al)); clear HB; revert n0 n1 n2 n3; intro HB aq aF aG; clear hb hbox hg; have ⟨az, aA, aB, aC⟩ := G.d2 (w := w5) aq))
 refine bodyPost_ret (results_cell_row rfl _ _ al 51 #[.int .i64 ap, .int .i64 aw] (0, 0) _ rfl (by (with_reducible repeat (first | refine blk_drewN ?_ _ | refine blk_drew ?_ | refine blk_alloc ?_ _)); refine blk_put (cs := #[.int .i64 ap, .int .i64 0]) ?_ 1 _ rfl; (with_reducible repeat (first | refine blk_drewN ?_ _ | refine blk_drew ?_ | refine blk_alloc ?_ _)); refine blk_put (cs := #[.int .i64 0, .int .i64 0]) ?_ 0 _ rfl; (with_reducible repeat (first | refine blk_drewN ?_ _ | refine blk_drew ?_ | refine blk_alloc ?_ _)); exact aq.out) Tryd.underlying51 rfl (by kernel_rfl)) rfl ?_; exact ⟨by first | rfl | (simp [errW_none, errW_some] <;> rfl) | (simp only [← aj, ← ak]; first | rfl | (simp [errW_none, errW_some] <;> rfl)) | (simp [*, errW_none, errW_some] <;> rfl), G.cB HB.out⟩

/-! ### impl_Net_has: function 50 -/
def impl_Net_has.f (k : Nat) (ag : Int) (ab : List (S51)) (a1 : Int) (a2 : Int) : Option (Bool) := (impl_tie.f a1 a2).bind fun ae => ((slices_Contains_impl_Tie_impl_Tie.f k ab ae.1 ae.2).bind fun ac => (some ac))
theorem impl_Net_has.mono : ∀ a0 a1 a2 a3 k, LeO (impl_Net_has.f k a0 a1 a2 a3) (impl_Net_has.f (k + 1) a0 a1 a2 a3) := by
 intro a0 a1 a2 a3 k; unfold impl_Net_has.f
 repeat' first | (with_reducible first | exact slices_Contains_impl_Tie_impl_Tie.mono _ _ _ _ | exact LeO.refl _ | exact LeO.none _ | refine LeO.ite ?_ ?_ | refine LeO.bind ?_ (fun _ => ?_)) | exact slices_Contains_impl_Tie_impl_Tie.mono _ _ _ _ | exact LeO.none _ | refine LeO.ite ?_ ?_ | refine LeO.bind ?_ (fun _ => ?_)
set_option maxHeartbeats 8000000 in
set_option maxRecDepth 100000 in
theorem impl_Net_has.calls (k : Nat) (ag : Int) (ah : Option Addr) (ai : Nat) (ab : List (S51)) (a1 : Int) (a2 : Int) (r : Bool) (w : World) (au : Kd.C k51 w ah ab.length ab) (av : ab.length ≤ ai) (h : impl_Net_has.f k ag ab a1 a2 = some r) :
  Calls Tryd.prog 50 #[.agg #[.int .i64 ag, .slice ah ab.length ai], .int .i64 a1, .int .i64 a2] w fun e w' => e = .returned (.bool r) ∧ Below w.heap.size w w' := by
 have aK := Tryd.underlying29; have ax := G.m au; have ay := G.m av; clear au av; have HB := G.m (Below.refl w.heap.size w); have H : ((impl_tie.f a1 a2).bind fun ae => ((slices_Contains_impl_Tie_impl_Tie.f k ab ae.1 ae.2).bind fun ac => (some ac))) = some r := h; clear h; obtain ⟨⟨am, ao⟩, A4, H⟩ := G.bi H; replace H : ((slices_Contains_impl_Tie_impl_Tie.f k ab am ao).bind fun ac => (some ac)) = some r := H; obtain ⟨ac, A5, H⟩ := G.bi H; replace H : (some ac) = some r := H; obtain rfl := Option.some.inj H
 go_enter Tryd.func50, Tryd.ntmps50; try go_wp2_with (first | ((with_reducible refine G.h 3 rfl ?_); refine G.be 3 #[.int .i64 ag, .slice ah ab.length ai] 29 ?_; intro af hg w6 hbox hb; have n0 := G.bs HB hb; have n1 := G.m (hbox); have n2 := G.m ((by rw [hg]; exact (below_size (G.cB HB.out)) : w.heap.size ≤ af)); have n3 := G.m ((by rw [hg]; exact (below_size (G.cB HB.out)) : w.heap.size ≤ af)); clear HB; revert n0 n1 n2 n3; intro HB aa aH aI; clear hb hbox hg))
 have n0 := G.m (blk_drew aa.out); have n1 := G.m (below_drew1 HB.out); clear aa HB; revert n0 n1; intro aa HB; refine start_ (n := 7) (S := fun w' => w'.cell? ⟨af, 0, none⟩ = some (.int .i64 ag) ∧ w'.cell? ⟨af, 1, none⟩ = some (.slice ah ab.length ai)) (ds := []) (G.fl 7 0) (by kernel_rfl) rfl (by kernel_rfl) ⟨G.z aa 0, G.z aa 1⟩ (fun hHeld => ?_); generalize w6.drew = w7 at aa HB hHeld ⊢; refine G.pu 0 7 1 ?_; refine G.pu 2 9 5 ?_; refine G.pu 3 10 13 ?_; refine G.ta2 1 8 15 ?_; refine one_ (i := 4) (N := some 11) (G.fl 7 31) rfl rfl (by kernel_rfl) (by decide) (fun K hK => ?_); refine G.gs Tryd.func69 #[.int .i64 a1, .int .i64 a2] ?_; with_reducible refine (impl_tie.calls a1 a2 am ao _ A4.out).mono ?_
 rintro e w8 ⟨rfl, hb⟩; refine ⟨_, rfl, ?_⟩; have n0 := G.bb aa hb; have n1 := G.bs HB hb; clear aa HB; revert n0 n1; intro aa HB; (try clear hb); refine hK.out _ _ ⟨G.z aa 0, G.z aa 1⟩ (fun hHeld => ?_); clear hK K; refine G.no 11 ?_; refine one_ (i := 5) (N := some 12) (G.fl 7 63) rfl rfl (by kernel_rfl) (by decide) (fun K hK => ?_); refine G.gs Tryd.func75 #[.slice ah ab.length ai, .agg #[.int .i64 am, .int .i64 ao]] ?_; with_reducible refine (slices_Contains_impl_Tie_impl_Tie.calls k _ _ ab am ao ac _ ?side1 ?side2 A5.out).mono ?_
 (case side1 => exact G.cC (Kd.C_below ax.out HB.out)); (case side2 => exact ay.out); rintro e w9 ⟨rfl, hb⟩; refine ⟨_, rfl, ?_⟩; have n0 := G.bb aa hb; have n1 := G.bs HB hb; clear aa HB; revert n0 n1; intro aa HB; (try clear hb); refine hK.out _ _ ⟨G.z aa 0, G.z aa 1⟩ (fun hHeld => ?_); clear hK K; refine G.no 12 ?_; refine G.pu 6 6 127 ?_; refine done_ (by kernel_rfl) ?_; try go_wp2
 go_ret
 exact ⟨by first | rfl | (simp [errW_none, errW_some] <;> rfl) | (simp [*, errW_none, errW_some] <;> rfl), G.cB HB.out⟩

end Go.Proofs.YtjkeagcenmmknaaDoor.P
