-- Printed by a program of this session (mp.py, over the kit's print). Not trusted: Lean checks it.
import Derived.Test.YtjkeagcenmmknaaDoorF0
import Derived.Test.YtjkeagcenmmknaaDoorF1
namespace Go.Proofs.YtjkeagcenmmknaaDoor.P
open Go.RowKit Go.Proofs.YtjkeagcenmmknaaDoorW.PrintWords Go.Proofs.YtjkeagcenmmknaaDoorW.PrintLast Go.Proofs.YtjkeagcenmmknaaDoorW.PrintMore
attribute [local go_sem] max2_int min2_int max_two min_two max_three min_three max_four min_four   -- for this text's walks alone
set_option linter.unusedVariables false
set_option linter.unusedSimpArgs false

theorem cabC {p : Prop} (h : p := by first | rfl | (simp [errW_none, errW_some] <;> rfl) | (simp [*, errW_none, errW_some] <;> rfl)) : p := h
theorem cabB {p : Prop} (h : p := by rw [hg]; exact (below_size (G.cB HB.out))) : p := h
attribute [local go_sem high] eqA51
/-! ### slices_Index_impl_Tie_impl_Tie: function 92 -/
def slices_Index_impl_Tie_impl_Tie.l0 : Nat → List (S51) → Int → Int → Int → Int → Option (Int)
 | 0, _, _, _, _, _ => none
 | k + 1, x0, x7, x8, am, ao => if x8 < x7 then (if 0 ≤ x8 then (if x8 < (x0.length : Int) then (if (am == ((rd_T51 x0 x8).f0) && (ao == ((rd_T51 x0 x8).f1))) = true then (some x8) else (slices_Index_impl_Tie_impl_Tie.l0 k x0 x7 (wrap64 (x8 + 1)) am ao)) else (none)) else (none)) else (some (-1))
def slices_Index_impl_Tie_impl_Tie.f (k : Nat) (l0 : List (S51)) (ab : Int) (ac : Int) : Option (Int) := slices_Index_impl_Tie_impl_Tie.l0 k l0 (l0.length : Int) 0 ab ac
theorem slices_Index_impl_Tie_impl_Tie.mono_l : ∀ k, (∀ y0 y1 y2 y3 y4, LeO (slices_Index_impl_Tie_impl_Tie.l0 k y0 y1 y2 y3 y4) (slices_Index_impl_Tie_impl_Tie.l0 (k + 1) y0 y1 y2 y3 y4))
 | 0 => fun _ _ _ _ _ r h => by simp [slices_Index_impl_Tie_impl_Tie.l0] at h
 | k + 1 => by
  have ap := slices_Index_impl_Tie_impl_Tie.mono_l k
  ·intro y0 y1 y2 y3 y4; unfold slices_Index_impl_Tie_impl_Tie.l0
   repeat' first
   | (with_reducible exact ap _ _ _ _ _)
   | (with_reducible exact LeO.refl _)
   | (with_reducible exact LeO.none _)
   | (with_reducible refine LeO.ite ?_ ?_)
   | (with_reducible refine LeO.bind ?_ (fun _ => ?_))
   | exact ap _ _ _ _ _
   | exact LeO.none _
   | refine LeO.ite ?_ ?_
   | refine LeO.bind ?_ (fun _ => ?_)
theorem slices_Index_impl_Tie_impl_Tie.mono : ∀ a0 a1 a2 k, LeO (slices_Index_impl_Tie_impl_Tie.f k a0 a1 a2) (slices_Index_impl_Tie_impl_Tie.f (k + 1) a0 a1 a2) := by
 intro a0 a1 a2 k; have ap := slices_Index_impl_Tie_impl_Tie.mono_l k; unfold slices_Index_impl_Tie_impl_Tie.f
 repeat' first | (with_reducible first | exact ap _ _ _ _ _ | exact LeO.refl _ | exact LeO.none _ | refine LeO.ite ?_ ?_ | refine LeO.bind ?_ (fun _ => ?_)) | exact ap _ _ _ _ _ | exact LeO.none _ | refine LeO.ite ?_ ?_ | refine LeO.bind ?_ (fun _ => ?_)
set_option maxHeartbeats 8000000 in
set_option maxRecDepth 100000 in
theorem slices_Index_impl_Tie_impl_Tie.calls (k : Nat) (A0 : Option Addr) (c0 : Nat) (l0 : List (S51)) (ab : Int) (ac : Int) (r : Int) (w : World) (aq : Kd.C k51 w A0 l0.length l0) (au : l0.length ≤ c0) (h : slices_Index_impl_Tie_impl_Tie.f k l0 ab ac = some r) :
  Calls Tryd.prog 92 #[.slice A0 l0.length c0, .agg #[.int .i64 ab, .int .i64 ac]] w fun e w' => e = .returned (.int .i64 r) ∧ Below w.heap.size w w' := by
 have aD := Tryd.underlying51; have aw := G.m aq; have aB := G.m au; clear aq au; have HB := G.m (Below.refl w.heap.size w); have H : (slices_Index_impl_Tie_impl_Tie.l0 k l0 (l0.length : Int) 0 ab ac) = some r := h; clear h; have H' := G.m H; clear H
 go_enter Tryd.func92, Tryd.ntmps92
 go_wp2_with (first | ((with_reducible refine G.h 3 rfl ?_); refine G.be 3 #[.int .i64 ab, .int .i64 ac] 51 ?_; intro ae hg w3 hbox hb; have n0 := G.bs HB hb; have n1 := G.m (hbox); have n2 := G.m (cabB : w.heap.size ≤ ae); have n3 := G.m (cabB : w.heap.size ≤ ae); clear HB; revert n0 n1 n2 n3; intro HB ah ax ay; clear hb hbox hg))
 repeat (go_quiet (first | ((with_reducible refine G.h 3 rfl ?_); refine G.be 3 #[.int .i64 ab, .int .i64 ac] 51 ?_; intro ae hg w3 hbox hb; have n0 := G.bs HB hb; have n1 := G.m (hbox); have n2 := G.m (cabB : w.heap.size ≤ ae); have n3 := G.m (cabB : w.heap.size ≤ ae); clear HB; revert n0 n1 n2 n3; intro HB ah ax ay; clear hb hbox hg)); try go_wp2_with (first | ((with_reducible refine G.h 3 rfl ?_); refine G.be 3 #[.int .i64 ab, .int .i64 ac] 51 ?_; intro ae hg w3 hbox hb; have n0 := G.bs HB hb; have n1 := G.m (hbox); have n2 := G.m (cabB : w.heap.size ≤ ae); have n3 := G.m (cabB : w.heap.size ≤ ae); clear HB; revert n0 n1 n2 n3; intro HB ah ax ay; clear hb hbox hg)))
 go_loopg [8] k (fun kq v8 w' => ∃ (aa : Int), v8 = .int .i64 aa ∧ Aside0 (slices_Index_impl_Tie_impl_Tie.l0 kq l0 (l0.length : Int) aa ab ac = some r) ∧ Aside0 (kq ≤ k) ∧ Aside0 (w'.heap[ae]? = some (.cells #[.int .i64 ab, .int .i64 ac] 51 (0, 0))) ∧ Aside0 (Below w.heap.size w w'))
 case atStart => exact ⟨(0), (by first | rfl | (simp; done) | (simp [*]; done)), H', ⟨Nat.le_refl _⟩, ⟨G.cb ah.out⟩, ⟨G.cB HB.out⟩⟩
 case round =>
  clear H'; try clear p2
  obtain ⟨aa, rfl, HA, aC, ah, HB⟩ := hrel; cases gk with
  | zero => exact absurd HA.out (by simp [slices_Index_impl_Tie_impl_Tie.l0])
  | succ k1 =>
   have H := HA.out; clear HA; simp only [slices_Index_impl_Tie_impl_Tie.l0] at H
   by_cases c4 : aa < (l0.length : Int)
   ·rw [if_pos c4] at H; have aE : decide (aa < (l0.length : Int)) = true := decide_eq_true c4; clear c4
    by_cases c5 : 0 ≤ aa
    ·rw [if_pos c5] at H; have aW : decide (0 ≤ aa) = true := decide_eq_true c5; clear c5
     by_cases c6 : aa < (l0.length : Int)
     ·rw [if_pos c6] at H; have aX : decide (aa < (l0.length : Int)) = true := decide_eq_true c6; clear c6
      by_cases c7 : (ab == ((rd_T51 l0 aa).f0) && (ac == ((rd_T51 l0 aa).f1))) = true
      ·rw [if_pos c7] at H; have aF : (ab == ((rd_T51 l0 aa).f0) && (ac == ((rd_T51 l0 aa).f1))) = true := c7; (try (have aG : decide (ab = ((rd_T51 l0 aa).f0) && (ac == ((rd_T51 l0 aa).f1))) = true := by simpa using c7)); (try (have aH : (ab == ((rd_T51 l0 aa).f0) && (ac == ((rd_T51 l0 aa).f1))) = true := by simpa using c7)); clear c7; obtain rfl := Option.some.inj H; have ⟨aI, aJ, aK, aL⟩ := G.d2 (w := wr) ah; have ai : 0 ≤ (aa : Int) := of_decide_eq_true (G.asm); have aj : aa < (l0.length : Int) := of_decide_eq_true (G.asm); obtain ⟨aA, av, af, ag⟩ := at_T51 aw.out aa ai aj; cases av; replace af := G.hx HB af; replace ag := G.hx HB ag; replace ai := eq_true ai; replace aj := eq_true aj
       go_wp2
       repeat (go_quiet (fail); try go_wp2)
       go_ret
       exact ⟨cabC, G.cB HB.out⟩
      ·rw [if_neg c7] at H; have aF : (ab == ((rd_T51 l0 aa).f0) && (ac == ((rd_T51 l0 aa).f1))) = false := by simpa using c7
       (try (have aG : decide (ab = ((rd_T51 l0 aa).f0) && (ac == ((rd_T51 l0 aa).f1))) = false := by simpa using c7)); (try (have aH : (ab == ((rd_T51 l0 aa).f0) && (ac == ((rd_T51 l0 aa).f1))) = false := by simpa using c7)); (try (have aY : ¬ (ab = ((rd_T51 l0 aa).f0) && (ac == ((rd_T51 l0 aa).f1))) := by simpa using c7)); clear c7; have H' := G.m H; clear H; have ⟨aM, aN, aO, aP⟩ := G.d2 (w := wr) ah; have ai : 0 ≤ (aa : Int) := of_decide_eq_true (G.asm); have aj : aa < (l0.length : Int) := of_decide_eq_true (G.asm); obtain ⟨aA, av, af, ag⟩ := at_T51 aw.out aa ai aj; cases av; replace af := G.hx HB af; replace ag := G.hx HB ag; replace ai := eq_true ai; replace aj := eq_true aj
       go_wp2
       repeat (go_quiet (fail); try go_wp2)
       go_roundg k1
       case measure => have := aC.out; omega
       case rel => exact ⟨(wrap64 (aa + 1)), (by first | rfl | (simp; done) | (simp [*]; done)), H', ⟨by have := aC.out; omega⟩, ⟨G.cb ah.out⟩, ⟨G.cB HB.out⟩⟩
     ·rw [if_neg c6] at H; exact absurd H (by simp)
    ·rw [if_neg c5] at H; exact absurd H (by simp)
   ·rw [if_neg c4] at H; have aE : decide (aa < (l0.length : Int)) = false := decide_eq_false c4; clear c4; obtain rfl := Option.some.inj H
    go_wp2
    repeat (go_quiet (fail); try go_wp2)
    go_ret
    exact ⟨cabC, G.cB HB.out⟩

/-! ### slices_Contains_impl_Tie_impl_Tie: function 75 -/
def slices_Contains_impl_Tie_impl_Tie.f (k : Nat) (l0 : List (S51)) (ab : Int) (ac : Int) : Option (Bool) := (slices_Index_impl_Tie_impl_Tie.f k l0 ab ac).bind fun ak => (some (decide (ak ≥ 0)))
theorem slices_Contains_impl_Tie_impl_Tie.mono : ∀ a0 a1 a2 k, LeO (slices_Contains_impl_Tie_impl_Tie.f k a0 a1 a2) (slices_Contains_impl_Tie_impl_Tie.f (k + 1) a0 a1 a2) := by
 intro a0 a1 a2 k; unfold slices_Contains_impl_Tie_impl_Tie.f
 repeat' first | (with_reducible first | exact slices_Index_impl_Tie_impl_Tie.mono _ _ _ _ | exact LeO.refl _ | exact LeO.none _ | refine LeO.ite ?_ ?_ | refine LeO.bind ?_ (fun _ => ?_)) | exact slices_Index_impl_Tie_impl_Tie.mono _ _ _ _ | exact LeO.none _ | refine LeO.ite ?_ ?_ | refine LeO.bind ?_ (fun _ => ?_)
set_option maxHeartbeats 8000000 in
set_option maxRecDepth 100000 in
theorem slices_Contains_impl_Tie_impl_Tie.calls (k : Nat) (A0 : Option Addr) (c0 : Nat) (l0 : List (S51)) (ab : Int) (ac : Int) (r : Bool) (w : World) (aq : Kd.C k51 w A0 l0.length l0) (au : l0.length ≤ c0) (h : slices_Contains_impl_Tie_impl_Tie.f k l0 ab ac = some r) :
  Calls Tryd.prog 75 #[.slice A0 l0.length c0, .agg #[.int .i64 ab, .int .i64 ac]] w fun e w' => e = .returned (.bool r) ∧ Below w.heap.size w w' := by
 have aD := Tryd.underlying51; have aw := G.m aq; have aB := G.m au; clear aq au; have HB := G.m (Below.refl w.heap.size w); have H : ((slices_Index_impl_Tie_impl_Tie.f k l0 ab ac).bind fun ak => (some (decide (ak ≥ 0)))) = some r := h; clear h; obtain ⟨ak, A3, H⟩ := G.bi H; replace H : (some (decide (ak ≥ 0))) = some r := H; obtain rfl := Option.some.inj H
 go_enter Tryd.func75, Tryd.ntmps75
 go_wp2_with (first | ((with_reducible refine G.h 3 rfl ?_); refine G.be 3 #[.int .i64 ab, .int .i64 ac] 51 ?_; intro az hg w4 hbox hb; have n0 := G.bs HB hb; have n1 := G.m (hbox); have n2 := G.m (cabB : w.heap.size ≤ az); have n3 := G.m (cabB : w.heap.size ≤ az); clear HB; revert n0 n1 n2 n3; intro HB al aU aV; clear hb hbox hg; have ⟨aQ, aR, aS, aT⟩ := G.d2 (w := w4) al) | ((with_reducible refine G.f 92 rfl ?_); refine G.gL 7 Tryd.func92 #[.slice A0 l0.length c0, .agg #[.int .i64 ab, .int .i64 ac]] ?_; (with_reducible refine (slices_Index_impl_Tie_impl_Tie.calls k _ _ l0 ab ac ak _ ?side1 ?side2 A3.out).mono ?_); (case side1 => exact G.cC (Kd.C_below aw.out HB.out)); (case side2 => exact aB.out); rintro e w6 ⟨rfl, hb⟩; refine ⟨_, rfl, ?_⟩; have n0 := G.bb al hb; have n1 := G.bs HB hb; clear al HB; revert n0 n1; intro al HB; (try clear hb)))
 go_ret
 exact ⟨cabC, G.cB HB.out⟩

end Go.Proofs.YtjkeagcenmmknaaDoor.P
